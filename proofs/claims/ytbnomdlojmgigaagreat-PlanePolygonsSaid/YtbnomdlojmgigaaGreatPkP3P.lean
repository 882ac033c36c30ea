/-
  A range over a function whose iterator is one's own, by a promise on each call of yield: the body may return or leave the range.
-/
import Derived.Test.YtbnomdlojmgigaaGreatPkP2P
import Derived.Test.YtbnomdlojmgigaaGreatProg
import Derived.Test.YtbnomdlojmgigaaGreatPkP0P
import Derived.Deep.DrawnRows
import Derived.Deep.QuietTactic
import Derived.BigQuiet
import Derived.Deep.LoopGhost
import Derived.Shelf.Spec.BitsCarry
set_option linter.unusedSimpArgs false
set_option linter.unusedVariables false
set_option maxRecDepth 100000
set_option maxHeartbeats 16000000
namespace Go.Proofs.YtbnomdlojmgigaaGreat
open Go Go.RowKit
section
variable {F:Fence} {n:Nat} {P:Program}
def endJ (l:Nat) (rec:LoopState→Option Code→Loop) (R:Ending→World→Prop):Exit→Act→World→Prop
 | .normal,_,W=>W.heap[l]?=some (.loop (rec .busy none))∧R (.returned (.bool true)) (W.putObj l (.loop (rec .ready none)))
 | .ret,_,W=>W.heap[l]?=some (.loop (rec .busy none))∧R (.returned (.bool false)) (W.putObj l (.loop (rec .done (some .ret))))
 | .exit id,_,W=>W.heap[l]?=some (.loop (rec .busy none))∧R (.returned (.bool false)) (W.putObj l (.loop (rec .done (some (.exit id)))))
 | _,_,_=>False
theorem rangeJointR {g:Operand} {ps:Array Tmp} {assign body:Code} {Q:Exit→Act→World→Prop} {a:Act} {w:World}
  (hro:F.round=none) (h1:1≤n) {gf:Nat} {lb:Array Value} (hg:a.eval g=.func (.func gf) #[] lb) (hFg:F.fn gf) (eg:∀args w,(callFunc gf args).run P w=.ok (.enter gf args) w)
  (h:∀(rec:LoopState→Option Code→Loop) (l D:Nat) (W1:World),l=w.heap.size + 1→D=w.heap.size→W1=(w.alloc (.deferred (some []))).alloc (.loop (rec .ready none))→
   (∀(args:Array Value) (W:World) (R:Ending→World→Prop),args.size=ps.size→W.heap[l]?=some (.loop (rec .ready none))→
    assign.wpIn (F.inRound l) (n - 1 - 1) P (Exit.then (fun a₁ w₁=>w₁.heap[l]?=some (.loop (rec .ready none))∧
     body.wpIn (F.inRound l) (n - 1 - 1) P (endJ l rec R) a₁ (w₁.putObj l (.loop (rec .busy none)))) (fun _ _ _=>False))
     {tmps:=(ps.zip args).foldl (fun t (p,v)=>t.setIfInBounds p v) a.tmps,defers:=[]} W→
    YieldAt F (n - 1 - 1) P l args W R)→
   CallsIn F (n - 1) P gf (#[.func (.yield l) #[] #[]] ++ lb) W1 (fun e W2=>(∃v,e=.returned v)∧
    ((W2.heap[l]?=some (.loop (rec .ready none))∧Q .normal {a with defers:={target:=.collected D,args:=#[]} ::a.defers} (W2.putObj l (.loop (rec .exhausted none))))∨
     ∃c,W2.heap[l]?=some (.loop (rec .done (some c)))∧c.wpIn F n P Q {a with defers:={target:=.collected D,args:=#[]} ::a.defers} (W2.putObj l (.loop (rec .exhausted (some c))))))):
  (Code.rangeFunc g ps assign body).wpIn F n P Q a w:=by
 refine wpIn_rangeFunc ?_
 intro fn hfn
 rw[hro]
 obtain⟨rec,hrec⟩:∃rec:LoopState→Option Code→Loop,rec=fun st pe=>{state:=st,pending:=pe,fn,tmps:=a.tmps,params:=ps,assign,body,defers:=w.heap.size}:=⟨_,rfl⟩
 obtain⟨W1,hW1⟩:∃W1,W1=(w.alloc (.deferred (some []))).alloc (.loop (rec .ready none)):=⟨_,rfl⟩
 have hc:=h rec (w.heap.size + 1) w.heap.size W1 rfl rfl hW1 (by
  intro args W R hs hl ha
  have hy:=run_yield (P:=P) (args:=args) hl (by rw[hrec];exact hs)
  rw[hrec] at hy
  refine⟨fn,_,assign,body,hy,roundIn_of_wpIn hfn (wpIn_mono ha ?_)⟩
  rintro e a₁ w₁ hp
  cases e with
  | normal=>
   obtain⟨hl1,hb⟩:=hp
   have hbr:=run_beginRound (P:=P) hl1 (by rw[hrec])
   rw[show ({rec .ready none with state:=.busy}:Loop)=rec .busy none by rw[hrec]] at hbr
   refine⟨_,hbr,wpIn_mono hb ?_⟩
   rintro e a3 W3 hp3
   have fin:∀(jump:Option Code),W3.heap[w.heap.size + 1]?=some (.loop (rec .busy none))→(Instr.endRound (w.heap.size + 1) jump).run P W3=.ok (.bool jump.isNone) (W3.putObj (w.heap.size + 1) (.loop (rec (if jump.isNone then .ready else .done) jump))):=fun jump hl3=>by
    have:=run_endRound (P:=P) jump hl3
    rw[hrec] at this ⊢
    exact this
   cases e with
   | normal=>exact⟨_,_,fin none hp3.1,hp3.2⟩
   | ret=>exact⟨_,_,fin (some .ret) hp3.1,hp3.2⟩
   | exit id=>exact⟨_,_,fin (some (.exit id)) hp3.1,hp3.2⟩
   | goto t=>exact hp3.elim
   | panic ch=>exact hp3.elim
   | outgrown=>exact hp3.elim
  | exit id=>exact hp.elim
  | goto t=>exact hp.elim
  | ret=>exact hp.elim
  | panic ch=>exact hp.elim
  | outgrown=>exact hp.elim)
 refine⟨w.heap.size + 1,[{target:=.collected w.heap.size,args:=#[]}],W1,{target:=.fn (.func gf) lb,args:=#[.func (.yield (w.heap.size + 1)) #[] #[]]},W1,gf,
  #[.func (.yield (w.heap.size + 1)) #[] #[]] ++ lb,W1,?_,?_,?_,?_,fun _=>h1,?_⟩
 ·rw[hW1,hrec];exact run_enterLoop_outer _ _ _ _ _
 ·simp only[resolve,hg]
  simp[go_sem]
 ·intro f' hf';simp[Target.leads] at hf';subst hf';exact hFg
 ·simp[invoke,go_sem,eg]
 ·refine hc.mono ?_
  rintro e W2 ⟨⟨v,rfl⟩,⟨hl,hQ⟩|⟨c,hl,hQ⟩⟩
  ·have hel:=run_endLoop (P:=P) hl (by rw[hrec];simp)
   rw[show ({rec .ready none with state:=.exhausted}:Loop)=rec .exhausted none by rw[hrec],show (rec .ready none).pending=none by rw[hrec]] at hel
   exact⟨none,_,hel,hQ⟩
  ·have hel:=run_endLoop (P:=P) hl (by rw[hrec];simp)
   rw[show ({rec .done (some c) with state:=.exhausted}:Loop)=rec .exhausted (some c) by rw[hrec],show (rec .done (some c)).pending=some c by rw[hrec]] at hel
   exact⟨some c,_,hel,hQ⟩
theorem rangeJointN {l₀:Nat} {r₀:Loop} {g:Operand} {ps:Array Tmp} {assign body:Code} {Q:Exit→Act→World→Prop} {a:Act} {w:World}
  (hro:F.round=some l₀) (hl₀:w.heap[l₀]?=some (.loop r₀)) (h1:1≤n) {gf:Nat} {lb:Array Value} (hg:a.eval g=.func (.func gf) #[] lb) (hFg:F.fn gf) (eg:∀args w,(callFunc gf args).run P w=.ok (.enter gf args) w)
  (h:∀(rec:LoopState→Option Code→Loop) (l:Nat) (W1:World),l=w.heap.size→W1=w.alloc (.loop (rec .ready none))→
   (∀(args:Array Value) (W:World) (R:Ending→World→Prop),args.size=ps.size→W.heap[l]?=some (.loop (rec .ready none))→
    assign.wpIn (F.inRound l) (n - 1 - 1) P (Exit.then (fun a₁ w₁=>w₁.heap[l]?=some (.loop (rec .ready none))∧
     body.wpIn (F.inRound l) (n - 1 - 1) P (endJ l rec R) a₁ (w₁.putObj l (.loop (rec .busy none)))) (fun _ _ _=>False))
     {tmps:=(ps.zip args).foldl (fun t (p,v)=>t.setIfInBounds p v) a.tmps,defers:=[]} W→
    YieldAt F (n - 1 - 1) P l args W R)→
   CallsIn F (n - 1) P gf (#[.func (.yield l) #[] #[]] ++ lb) W1 (fun e W2=>(∃v,e=.returned v)∧
    ((W2.heap[l]?=some (.loop (rec .ready none))∧Q .normal a (W2.putObj l (.loop (rec .exhausted none))))∨
     ∃c,W2.heap[l]?=some (.loop (rec .done (some c)))∧c.wpIn F n P Q a (W2.putObj l (.loop (rec .exhausted (some c))))))):
  (Code.rangeFunc g ps assign body).wpIn F n P Q a w:=by
 refine wpIn_rangeFunc ?_
 intro fn hfn
 rw[hro]
 obtain⟨rec,hrec⟩:∃rec:LoopState→Option Code→Loop,rec=fun st pe=>{state:=st,pending:=pe,fn,tmps:=a.tmps,params:=ps,assign,body,defers:=r₀.defers}:=⟨_,rfl⟩
 obtain⟨W1,hW1⟩:∃W1,W1=w.alloc (.loop (rec .ready none)):=⟨_,rfl⟩
 have hc:=h rec w.heap.size W1 rfl hW1 (by
  intro args W R hs hl ha
  have hy:=run_yield (P:=P) (args:=args) hl (by rw[hrec];exact hs)
  rw[hrec] at hy
  refine⟨fn,_,assign,body,hy,roundIn_of_wpIn hfn (wpIn_mono ha ?_)⟩
  rintro e a₁ w₁ hp
  cases e with
  | normal=>
   obtain⟨hl1,hb⟩:=hp
   have hbr:=run_beginRound (P:=P) hl1 (by rw[hrec])
   rw[show ({rec .ready none with state:=.busy}:Loop)=rec .busy none by rw[hrec]] at hbr
   refine⟨_,hbr,wpIn_mono hb ?_⟩
   rintro e a3 W3 hp3
   have fin:∀(jump:Option Code),W3.heap[w.heap.size]?=some (.loop (rec .busy none))→(Instr.endRound w.heap.size jump).run P W3=.ok (.bool jump.isNone) (W3.putObj w.heap.size (.loop (rec (if jump.isNone then .ready else .done) jump))):=fun jump hl3=>by
    have:=run_endRound (P:=P) jump hl3
    rw[hrec] at this ⊢
    exact this
   cases e with
   | normal=>exact⟨_,_,fin none hp3.1,hp3.2⟩
   | ret=>exact⟨_,_,fin (some .ret) hp3.1,hp3.2⟩
   | exit id=>exact⟨_,_,fin (some (.exit id)) hp3.1,hp3.2⟩
   | goto t=>exact hp3.elim
   | panic ch=>exact hp3.elim
   | outgrown=>exact hp3.elim
  | exit id=>exact hp.elim
  | goto t=>exact hp.elim
  | ret=>exact hp.elim
  | panic ch=>exact hp.elim
  | outgrown=>exact hp.elim)
 refine⟨w.heap.size,[],W1,{target:=.fn (.func gf) lb,args:=#[.func (.yield w.heap.size) #[] #[]]},W1,gf,
  #[.func (.yield w.heap.size) #[] #[]] ++ lb,W1,?_,?_,?_,?_,fun _=>h1,?_⟩
 ·rw[hW1,hrec];exact run_enterLoop_inner hl₀ _ _ _ _ _
 ·simp only[resolve,hg]
  simp[go_sem]
 ·intro f' hf';simp[Target.leads] at hf';subst hf';exact hFg
 ·simp[invoke,go_sem,eg]
 ·refine hc.mono ?_
  rintro e W2 ⟨⟨v,rfl⟩,⟨hl,hQ⟩|⟨c,hl,hQ⟩⟩
  ·have hel:=run_endLoop (P:=P) hl (by rw[hrec];simp)
   rw[show ({rec .ready none with state:=.exhausted}:Loop)=rec .exhausted none by rw[hrec],show (rec .ready none).pending=none by rw[hrec]] at hel
   exact⟨none,_,hel,hQ⟩
  ·have hel:=run_endLoop (P:=P) hl (by rw[hrec];simp)
   rw[show ({rec .done (some c) with state:=.exhausted}:Loop)=rec .exhausted (some c) by rw[hrec],show (rec .done (some c)).pending=some c by rw[hrec]] at hel
   exact⟨some c,_,hel,hQ⟩
end
end Go.Proofs.YtbnomdlojmgigaaGreat
namespace Go.Proofs.YtbnomdlojmgigaaGreat
open Go.RowKit Dg
attribute [local go_sem ↓] Go.wp_at_zero Go.wp_at_succ
def Kp (n:Nat) (W W':World):Prop:=W.heap.size≤W'.heap.size∧∀b,n≤b→b < W.heap.size→TyB 31 W b→W'.heap[b]?=W.heap[b]?
theorem Kp.refl (n:Nat) (W:World):Kp n W W:=⟨ag _,fun _ _ _ _=>rfl⟩
theorem Kp.ty {n:Nat} {A B:World} (h:Kp n A B) {b:Nat} (h1:n≤b) (h2:b < A.heap.size) (ht:TyB 31 A b):TyB 31 B b:=by
 obtain⟨cs,fr,e⟩:=id ht
 exact⟨cs,fr,(h.2 b h1 h2 ht).trans e⟩
theorem Kp.trans {n:Nat} {A B C:World} (h:Kp n A B) (k:Kp n B C):Kp n A C:=⟨Nat.le_trans h.1 k.1,fun b hb hl ht=>(k.2 b hb (by have:=h.1;omega) (h.ty hb hl ht)).trans (h.2 b hb hl ht)⟩
theorem Kp.below {n:Nat} {A B C:World} (h:Kp n A B) (hb:Below B.heap.size B C):Kp n A C:=h.trans ⟨hb.size,fun b _ hl _=>hb.block b hl⟩
theorem kpJ (n:Nat) (A B:World) {C:World} (h:Kp n A B) (hb:Below B.heap.size B C):Kp n A C:=h.below hb
theorem Kp.gr {n:Nat} {A B C:World} {gs:List Nat} (h:Kp n A B) (hG:Gr gs B C) (hg:∀g∈gs,g < n∨A.heap.size≤g):Kp n A C:=
 ⟨Nat.le_trans h.1 hG.size,fun b h1 h2 ht=>(hG.block b (by have:=h.1;omega) (fun hm=>by have:=hg b hm;omega)).trans (h.2 b h1 h2 ht)⟩
theorem Kp.gr1 {n:Nat} {A B C:World} {g:Nat} (h:Kp n A B) (hG:Gr [g] B C) (hg:g < n∨A.heap.size≤g):Kp n A C:=h.gr hG (fun x hx=>by
 cases hx with
 | head=>exact hg
 | tail _ h=>cases h)
theorem Kp.only {n:Nat} {A B C:World} {T:TypeId} (h:Kp n A B) (ho:dg T B C) (hT:T≠31) (_:True):Kp n A C:=
 ⟨Nat.le_trans h.1 ho.size,fun b h1 h2 ht=>(ho.block b (by have:=h.1;omega) (fun h'=>TyB.ne h' (h.ty h1 h2 ht) hT rfl)).trans (h.2 b h1 h2 ht)⟩
theorem Kp.putL {n:Nat} {A B:World} (h:Kp n A B) {l:Nat} (hb:l < n∨A.heap.size≤l) (o:Obj):Kp n A (B.putObj l o):=
 ⟨by rw[World.putObj_size];exact h.1,fun q h1 h2 ht=>(World.putObj_heap_other (by omega)).trans (h.2 q h1 h2 ht)⟩
structure AtB (b:Nat) (o:Obj) (W:World):Prop where
 h:W.heap[b]?=some o
theorem atB (b:Nat) (o:Obj) (W:World) {W':World} (h:AtB b o W) (hb:Below W.heap.size W W'):AtB b o W':=⟨(hb.block b (Array.getElem?_eq_some_iff.1 h.h).1).trans h.h⟩
theorem AtB.gr {b:Nat} {o:Obj} {W W':World} {gs:List Nat} (h:AtB b o W) (hG:Gr gs W W') (hn:b ∉ gs):AtB b o W':=⟨(hG.block b (Array.getElem?_eq_some_iff.1 h.h).1 hn).trans h.h⟩
theorem AtB.only {b:Nat} {o:Obj} {W W':World} {T:TypeId} (h:AtB b o W) (ho:dg T W W') (hc:o.isCells=false):AtB b o W':=⟨(ho.block b (Array.getElem?_eq_some_iff.1 h.h).1 (fun ⟨cs,fr,e⟩=>by
 have h':=h.h
 rw[e] at h'
 cases h'
 cases hc)).trans h.h⟩
theorem AtB.onlyL {b:Nat} {r:Loop} {W W':World} {T:TypeId} (h:AtB b (.loop r) W) (ho:dg T W W') (_:True) (_:True):AtB b (.loop r) W':=h.only ho rfl
theorem AtB.onlyD {b:Nat} {r:Option (List Deferred)} {W W':World} {T:TypeId} (h:AtB b (.deferred r) W) (ho:dg T W W') (_:True) (_:True):AtB b (.deferred r) W':=h.only ho rfl
def nxZ (l:List Pt) (k:Nat):Pt:=ptZ l ((k + 1) % l.length)
abbrev egV (a b:Pt):Value:=.agg #[.int .i64 a.1,.int .i64 a.2,.int .i64 b.1,.int .i64 b.2]
theorem xm (k n:Nat):Int.tmod ((k:Int) + 1) (n:Int)=((k + 1) % n:Nat):=by
 rw[Int.tmod_eq_emod_of_nonneg (by omega)];simp
theorem ph (ao:Option Addr) (n c:Nat) (w:World):Calls Tryz.prog 61 #[.slice ao n c] w (fun e w'=>e=.returned (.func (.func 103) #[] #[.pointer (some ⟨w.heap.size,0,none⟩)])∧Bx w' w.heap.size 22 #[.slice ao n c]∧Below w.heap.size w w'):=by
 have hs:=Below.refl w.heap.size w
 go_enter Tryz.func61,Tryz.ntmps61
 go_wp2
 go_ret
 exact⟨rfl,Bx.new _ _ _,(Below.refl _ _).alloc (ag _) _⟩
theorem edg_in (lp bx:Nat) (v:Value) (l:List Pt) (J:Nat→World→Prop) (Jx:World→Prop) (w0 u:World) (hl:Pts w0 v l) (h2:l.length≤1000000000)
  (h0s:w0.heap.size≤u.heap.size)
  (hJw:∀k W,J k W→Below w0.heap.size w0 W∧W.cell? ⟨bx,0,none⟩=some v)
  (hXw:∀W,Jx W→Below w0.heap.size w0 W∧W.cell? ⟨bx,0,none⟩=some v)
  (hJb:∀k W W',J k W→Below W.heap.size W W'→J k W')
  (hXb:∀W W',Jx W→Below W.heap.size W W'→Jx W')
  (hY:∀k W,k < l.length→J k W→u.heap.size≤W.heap.size→YieldAt Fence.wide 0 Tryz.prog lp #[.int .i64 k,egV (ptZ l k) (nxZ l k)] W fun e W'=>
   Kp u.heap.size W W'∧((e=.returned (.bool true)∧J (k + 1) W')∨(e=.returned (.bool false)∧Jx W')))
  (h0:J 0 u):Calls Tryz.prog 103 #[.func (.yield lp) #[] #[],.pointer (some ⟨bx,0,none⟩)] u fun e W'=>(∃x,e=.returned x)∧(J l.length W'∨Jx W'):=by
 obtain⟨ao,cap,rfl,hc1,hc2,hc3⟩:=hl.slice
 have HL:=ae hl
 have B1:=(hJw _ _ h0).2
 have hus:u.heap.size≤u.heap.size:=ag _
 clear hl
 go_enter Tryz.func103,Tryz.ntmps103
 go_wp2
 go_loopw [7] (fun iv wq=>∃k:Nat,k≤l.length∧iv=.int .i64 k∧u.heap.size≤wq.heap.size∧J k wq) (fun iv _=>l.length - (intOf iv).toNat)
 case atStart=>exact⟨0,Nat.zero_le _,rfl,hus,h0⟩
 case round=>
  clear h0 B1 hus
  obtain⟨k,hk,rfl,hn,hJ⟩:=hrel
  by_cases hlt:k < l.length
  ·have Ba:=(hJw _ _ hJ).1
   have B1:=(hJw _ _ hJ).2
   obtain⟨bb,oo,cc,hv, -, -⟩:=ep HL.out (by omega)
   injection hv with hv _ hv3
   subst hv hv3
   have hmm:(k + 1) % l.length < l.length:=Nat.mod_lt _ (by omega)
   obtain⟨E0,E1,hLb⟩:=ij HL.out hlt
   obtain⟨N0,N1, -⟩:=ij HL.out hmm
   obtain⟨m,Hm⟩:∃m,m=(k + 1) % l.length:=⟨_,rfl⟩
   obtain⟨a1,Ha1⟩:∃x,x=(ptZ l k).1:=⟨_,rfl⟩
   obtain⟨a2,Ha2⟩:∃x,x=(ptZ l k).2:=⟨_,rfl⟩
   obtain⟨b1,Hb1⟩:∃x,x=(nxZ l k).1:=⟨_,rfl⟩
   obtain⟨b2,Hb2⟩:∃x,x=(nxZ l k).2:=⟨_,rfl⟩
   rw[show (ptZ l ((k + 1) % l.length)).1=b1 from Hb1.symm] at N0
   rw[show (ptZ l ((k + 1) % l.length)).2=b2 from Hb2.symm] at N1
   rw[←Ha1] at E0
   rw[←Ha2] at E1
   rw[←Hm] at hmm N0 N1
   have HE:=ae (And.intro N0 N1)
   have hyk:=hY k
   rw[show egV (ptZ l k) (nxZ l k)=.agg #[.int .i64 a1,.int .i64 a2,.int .i64 b1,.int .i64 b2] from by rw[Ha1,Ha2,Hb1,Hb2]] at hyk
   have B3:IntKind.i64.wrap ((k:Int) + 1)=(k:Int) + 1:=IntWalk.i64_in _ (by omega)
   have B4:Int.tmod ((k:Int) + 1) (l.length:Int)=(m:Int):=by rw[Hm];exact xm _ _
   have B5:IntKind.i64.wrap (m:Int)=(m:Int):=IntWalk.i64_in _ (by omega)
   have SW3:(0:Int)≤(m:Int):=by omega
   have SW4:(m:Int) < (l.length:Int):=by omega
   have B6:((l.length:Int) == 0)=false:=by rw[beq_eq_false_iff_ne];omega
   have B7:(l=[])=False:=eq_false (fun e=>by rw[e] at hlt;exact absurd hlt (by simp))
   replace B3:=ae B3
   replace B4:=ae B4
   replace B5:=ae B5
   replace B6:=ae B6
   replace B7:=ae B7
   clear Ha1 Ha2 Hb1 Hb2 Hm
   replace E0:=ah E0 Ba
   replace E1:=ah E1 Ba
   replace N0:=ah N0 Ba
   replace N1:=ah N1 Ba
   have bk1:(0:Int)≤(k:Int):=by omega
   have bk4:(k:Int) < (l.length:Int):=by omega
   go_wp2_with fail
   refine Code.abs ?_
   intro w1 hW
   have hb:Below wr.heap.size wr w1:=by rw[hW];exact (Below.refl _ _).alloc (ag _) _
   have B2:Bx w1 wr.heap.size 31 #[.int .i64 a1,.int .i64 a2]:=by rw[hW];exact Bx.new _ _ _
   replace hJ:=hJb _ _ _ hJ hb
   replace N0:=ah N0 hb
   replace N1:=ah N1 hb
   replace B1:=ah B1 hb
   have hn1:u.heap.size≤w1.heap.size:=Nat.le_trans hn hb.size
   clear hW hb E0 E1 Ba
   refine (wpIn_wide (n:=1)).1 ?_
   refine UI_region (S:=fun w'=>w'.cell? ⟨wr.heap.size,0,none⟩=some (.int .i64 a1)∧w'.cell? ⟨wr.heap.size,1,none⟩=some (.int .i64 a2)∧w'.cell? ⟨bx,0,none⟩=some (.slice (some ⟨bb,oo,none⟩) l.length cap)∧w'.cell? ⟨bb,oo + m * 2,none⟩=some (.int .i64 b1)∧w'.cell? ⟨bb,oo + m * 2 + 1,none⟩=some (.int .i64 b2)) (by kernel_rfl) 14 ?_
   refine pq.abs ?_
   intro w2 hW
   have hb:Below w1.heap.size w1 w2:=by rw[hW];exact de _
   replace B2:=B2.mono hb
   replace hJ:=hJb _ _ _ hJ hb
   replace N0:=ah N0 hb
   replace N1:=ah N1 hb
   replace B1:=ah B1 hb
   have hn2:u.heap.size≤w2.heap.size:=Nat.le_trans hn1 hb.size
   clear hW hb
   have B8:=B2.at 0 rfl
   have B9:=B2.at 1 rfl
   have hH:=(show w2.cell? ⟨wr.heap.size,0,none⟩=some (.int .i64 a1)∧w2.cell? ⟨wr.heap.size,1,none⟩=some (.int .i64 a2)∧w2.cell? ⟨bx,0,none⟩=some (.slice (some ⟨bb,oo,none⟩) l.length cap)∧w2.cell? ⟨bb,oo + m * 2,none⟩=some (.int .i64 b1)∧w2.cell? ⟨bb,oo + m * 2 + 1,none⟩=some (.int .i64 b2) from ⟨B8,B9,B1,N0,N1⟩)
   refine jq (i:=0) (v:=?_) (by kernel_rfl) rfl (by kernel_rfl) (by kernel_rfl) (by kernel_rfl) (by kernel_rfl) (fun _ _ _ h=>h) (Or.inl ⟨by rfl,?_⟩) (fun _=>rfl) hH ?_
   rotate_left
   ·intro w B0
    try dsimp only at B0
    go_simp
    try with_reducible rfl
   try simp only[Act.put,List.setIfInBounds_toArray,List.set_cons_zero,List.set_cons_succ]
   refine jq (i:=1) (v:=?_) (by kernel_rfl) rfl (by kernel_rfl) (by kernel_rfl) (by kernel_rfl) (by kernel_rfl) (fun _ _ _ h=>h) (Or.inl ⟨by rfl,?_⟩) (fun _=>rfl) hH ?_
   rotate_left
   ·intro w B0
    try dsimp only at B0
    go_simp
    try with_reducible rfl
   try simp only[Act.put,List.setIfInBounds_toArray,List.set_cons_zero,List.set_cons_succ]
   refine jq (i:=2) (v:=?_) (by kernel_rfl) rfl (by kernel_rfl) (by kernel_rfl) (by kernel_rfl) (by kernel_rfl) (fun _ _ _ h=>h) (Or.inl ⟨by rfl,?_⟩) (fun _=>rfl) hH ?_
   rotate_left
   ·intro w B0
    try dsimp only at B0
    go_simp
    try with_reducible rfl
   try simp only[Act.put,List.setIfInBounds_toArray,List.set_cons_zero,List.set_cons_succ]
   refine jq (i:=3) (v:=?_) (by kernel_rfl) rfl (by kernel_rfl) (by kernel_rfl) (by kernel_rfl) (by kernel_rfl) (fun _ _ _ h=>h) (Or.inl ⟨by rfl,?_⟩) (fun _=>rfl) hH ?_
   rotate_left
   ·intro w B0
    try dsimp only at B0
    go_simp
    try with_reducible rfl
   try simp only[Act.put,List.setIfInBounds_toArray,List.set_cons_zero,List.set_cons_succ]
   refine jq (i:=4) (v:=?_) (by kernel_rfl) rfl (by kernel_rfl) (by kernel_rfl) (by kernel_rfl) (by kernel_rfl) (fun _ _ _ h=>h) (Or.inl ⟨by rfl,?_⟩) (fun _=>rfl) hH ?_
   rotate_left
   ·intro w B0
    try dsimp only at B0
    go_simp
    try with_reducible rfl
   try simp only[Act.put,List.setIfInBounds_toArray,List.set_cons_zero,List.set_cons_succ]
   refine jq (i:=5) (v:=?_) (by kernel_rfl) rfl (by kernel_rfl) (by kernel_rfl) (by kernel_rfl) (by kernel_rfl) (fun _ _ _ h=>h) (Or.inl ⟨by rfl,?_⟩) (fun _=>rfl) hH ?_
   rotate_left
   ·intro w B0
    try dsimp only at B0
    have q0:=B3.out
    have q1:=B4.out
    have q2:=B5.out
    have q5:=B6.out
    have q6:=B7.out
    go_simp
    try with_reducible rfl
   try simp only[Act.put,List.setIfInBounds_toArray,List.set_cons_zero,List.set_cons_succ]
   refine jq (i:=6) (v:=?_) (by kernel_rfl) rfl (by kernel_rfl) (by kernel_rfl) (by kernel_rfl) (by kernel_rfl) (fun _ _ _ h=>h) (Or.inl ⟨by rfl,?_⟩) (fun _=>rfl) hH ?_
   rotate_left
   ·intro w B0
    try dsimp only at B0
    go_simp
    try with_reducible rfl
   try simp only[Act.put,List.setIfInBounds_toArray,List.set_cons_zero,List.set_cons_succ]
   refine jq (i:=7) (v:=?_) (by kernel_rfl) rfl (by kernel_rfl) (by kernel_rfl) (by kernel_rfl) (by kernel_rfl) (fun _ _ _ h=>h) (Or.inl ⟨by rfl,?_⟩) (fun _=>rfl) hH ?_
   rotate_left
   ·intro w B0
    try dsimp only at B0
    go_simp
    try with_reducible rfl
   try simp only[Act.put,List.setIfInBounds_toArray,List.set_cons_zero,List.set_cons_succ]
   refine jq (i:=8) (v:=?_) (by kernel_rfl) rfl (by kernel_rfl) (by kernel_rfl) (by kernel_rfl) (by kernel_rfl) (fun _ _ _ h=>h) (Or.inl ⟨by rfl,?_⟩) (fun _=>rfl) hH ?_
   rotate_left
   ·intro w B0
    try dsimp only at B0
    have q0:=B3.out
    have q1:=B4.out
    have q2:=B5.out
    have q5:=B6.out
    have q6:=B7.out
    go_simp
    try with_reducible rfl
   try simp only[Act.put,List.setIfInBounds_toArray,List.set_cons_zero,List.set_cons_succ]
   refine jq (i:=9) (v:=?_) (by kernel_rfl) rfl (by kernel_rfl) (by kernel_rfl) (by kernel_rfl) (by kernel_rfl) (fun _ _ _ h=>h) (Or.inl ⟨by rfl,?_⟩) (fun _=>rfl) hH ?_
   rotate_left
   ·intro w B0
    try dsimp only at B0
    have q0:=B3.out
    have q1:=B4.out
    have q2:=B5.out
    have q5:=B6.out
    have q6:=B7.out
    go_simp
    try with_reducible rfl
   try simp only[Act.put,List.setIfInBounds_toArray,List.set_cons_zero,List.set_cons_succ]
   refine jq (i:=10) (v:=?_) (by kernel_rfl) rfl (by kernel_rfl) (by kernel_rfl) (by kernel_rfl) (by kernel_rfl) (fun _ _ _ h=>h) (Or.inl ⟨by rfl,?_⟩) (fun _=>rfl) hH ?_
   rotate_left
   ·intro w B0
    try dsimp only at B0
    have q0:=B3.out
    have q1:=B4.out
    have q2:=B5.out
    have q5:=B6.out
    have q6:=B7.out
    go_simp
    try with_reducible rfl
   try simp only[Act.put,List.setIfInBounds_toArray,List.set_cons_zero,List.set_cons_succ]
   refine jq (i:=11) (v:=?_) (by kernel_rfl) rfl (by kernel_rfl) (by kernel_rfl) (by kernel_rfl) (by kernel_rfl) (fun _ _ _ h=>h) (Or.inl ⟨by rfl,?_⟩) (fun _=>rfl) hH ?_
   rotate_left
   ·intro w B0
    try dsimp only at B0
    go_simp
    try with_reducible rfl
   try simp only[Act.put,List.setIfInBounds_toArray,List.set_cons_zero,List.set_cons_succ]
   clear hH
   refine UI_one (i:=12) (by kernel_rfl) rfl (fun K hK=>?_)
   refine Exists.elim (hyk w2 hlt hJ hn2) (fun fn hq=>Exists.elim hq (fun tmps hq=>Exists.elim hq (fun assign hq=>Exists.elim hq (fun body hq=>?_))))
   obtain⟨hyd,hRd⟩:=hq
   clear hyk
   go_simp
   refine hRd.mono ?_
   clear hRd hyd
   rintro e w3 ⟨hkp,hor⟩
   have Bl3:Bx w3 wr.heap.size 31 #[.int .i64 a1,.int .i64 a2]:=(hkp.2 _ hn B2.lt B2.ty).trans B2
   have hn3:u.heap.size≤w3.heap.size:=Nat.le_trans hn2 hkp.1
   replace B8:=Bl3.at 0 rfl
   replace B9:=Bl3.at 1 rfl
   have Bb:Below w0.heap.size w0 w3∧w3.cell? ⟨bx,0,none⟩=some (.slice (some ⟨bb,oo,none⟩) l.length cap):=by
    rcases hor with ⟨-,h⟩|⟨-,h⟩
    ·exact hJw _ _ h
    exact hXw _ h
   replace B1:=Bb.2
   replace N0:=ah HE.out.1 Bb.1
   replace N1:=ah HE.out.2 Bb.1
   rcases hor with ⟨rfl,hJ3⟩|⟨rfl,hJ3⟩
   all_goals
    clear hJ hkp Bl3 Bb HE
    refine hK.out _ _ ⟨B8,B9,B1,N0,N1⟩ (fun hH=>?_)
    clear hK K
    try simp only[Act.put,List.setIfInBounds_toArray,List.set_cons_zero,List.set_cons_succ]
    refine jq (i:=13) (v:=?_) (by kernel_rfl) rfl (by kernel_rfl) (by kernel_rfl) (by kernel_rfl) (by kernel_rfl) (fun _ _ _ h=>h) (Or.inl ⟨by rfl,?_⟩) (fun _=>rfl) hH ?_
    rotate_left
    ·intro w B0
     try dsimp only at B0
     go_simp
     try with_reducible rfl
    try simp only[Act.put,List.setIfInBounds_toArray,List.set_cons_zero,List.set_cons_succ]
    clear hH
    refine UI_end (by kernel_rfl) ?_
    clear B8 B9 B1 N0 N1
   ·skip
    go_wp2
    go_roundw
    case rel=>exact⟨k + 1,by omega,by go_num,hn3,hJ3⟩
    all_goals first|(simp[intOf];done)|(simp[intOf];omega)
   skip
   go_wp2
   try simp only[Exit.inBlock,Exit.then]
   refine bodyPost_ret (results_none rfl _ _ _) rfl ?_
   exact⟨⟨_,rfl⟩,.inr hJ3⟩
  obtain rfl:k=l.length:=by omega
  go_wp2
  go_end0
  exact⟨⟨_,rfl⟩,.inl hJ⟩
end Go.Proofs.YtbnomdlojmgigaaGreat
namespace Go.Proofs.YtbnomdlojmgigaaGreat
open Go.RowKit Dg
def si (k:IntKind) (B:Nat) (w:World) (x:Nat) (e:Ending) (w':World):Prop:=∃v,e=.returned v∧ck k B w' v x∧Below w.heap.size w w'∧qk w.heap.size v
end Go.Proofs.YtbnomdlojmgigaaGreat
namespace Go.Proofs.YtbnomdlojmgigaaGreat
open Go.RowKit Dg
def gn (x y:Nat):Int:=if x < y then -1 else if y < x then 1 else 0
def Quiet (w:World) (v:Value) (e:Ending) (w':World):Prop:=∃q,e=.returned v∧w'=w.drewN q
def RetNatD (k:IntKind) (B:Nat) (w:World) (x r:Nat) (e:Ending) (w':World):Prop:=∃v,e=.returned (.tuple #[v,.int k (r:Int)])∧ck k B w' v x∧Below w.heap.size w w'
end Go.Proofs.YtbnomdlojmgigaaGreat
namespace Go.Proofs.YtbnomdlojmgigaaGreat
open Go.RowKit Dg
theorem kh:(Tryz.prog.info? 108).map (fun i=>(i.zero,i.size,i.bytes))=some (some (.int .u64 0),1,8):=by kernel_rfl
def bitsRen:Go.Shelf.Ren:=⟨fun|25=>82|26=>84|n=>n,fun|22=>108|n=>n,fun|n=>n⟩
theorem lays25:Lays7.n25 Tryz.prog bitsRen:={mixed:=by kernel_rfl,f25:=Tryz.func82.trans (congrArg some (by kernel_rfl)),t22:=Tryz.underlying108,a22:=Tryz.isAgg108,z22:=Tryz.sizeOf108,v22:=Tryz.zeroValue108,i22:=by kernel_rfl}
theorem lays26:Lays7.n26 Tryz.prog bitsRen:={mixed:=by kernel_rfl,f26:=Tryz.func84.trans (congrArg some (by kernel_rfl)),t22:=Tryz.underlying108,a22:=Tryz.isAgg108,z22:=Tryz.sizeOf108,v22:=Tryz.zeroValue108,i22:=by kernel_rfl}
theorem add64 (x y c:Int) (hx:0≤x) (hy:0≤y) (hc0:0≤c) (hc:c≤1) (w:World):(callFunc 82 #[.int .u64 x,.int .u64 y,.int .u64 c]).run Tryz.prog w=
  .ok (.value (.tuple #[.int .u64 ((x + y + c) % 18446744073709551616),.int .u64 ((x + y + c) / 18446744073709551616)])) w:=by
 obtain⟨x,rfl⟩:=Int.eq_ofNat_of_zero_le hx
 obtain⟨y,rfl⟩:=Int.eq_ofNat_of_zero_le hy
 obtain⟨c,rfl⟩:=Int.eq_ofNat_of_zero_le hc0
 refine (Any7.bits_Add64 lays25 x y c (by omega) w).trans ?_
 congr 5<;>omega
def bor (x y b:Int):Int:=if x < y + b then 1 else 0
theorem sub64 (x y b:Int) (hx:0≤x) (hy:0≤y) (hy':y < 18446744073709551616) (hb0:0≤b) (hb:b≤1) (w:World):(callFunc 84 #[.int .u64 x,.int .u64 y,.int .u64 b]).run Tryz.prog w=
  .ok (.value (.tuple #[.int .u64 ((x - y - b) % 18446744073709551616),.int .u64 (bor x y b)])) w:=by
 obtain⟨x,rfl⟩:=Int.eq_ofNat_of_zero_le hx
 obtain⟨y,rfl⟩:=Int.eq_ofNat_of_zero_le hy
 obtain⟨b,rfl⟩:=Int.eq_ofNat_of_zero_le hb0
 have e1:(((x + 18446744073709551616 - y - b) % 18446744073709551616:Nat):Int)=((x:Int) - y - b) % 18446744073709551616:=by omega
 have e2:((if x < y + b then 1 else 0:Nat):Int)=bor x y b:=by unfold bor;split<;>split<;>omega
 rw[←e1,←e2]
 exact Any7.bits_Sub64 lays26 x y b (by omega) w
theorem uy (x y:Int) (hx:0≤x) (hy:0≤y) (w:World):(callFunc 82 #[.int .u64 x,.int .u64 y,.int .u64 0]).run Tryz.prog w=
  .ok (.value (.tuple #[.int .u64 ((x + y) % 18446744073709551616),.int .u64 ((x + y) / 18446744073709551616)])) w:=by
 simpa using add64 x y 0 hx hy (Int.le_refl 0) (by decide) w
def CutL (ao:Option Addr) (n c:Nat) (l:List Nat) (w:World) (e:Ending) (w':World):Prop:=
 ∃m,m≤n∧bi 18446744073709551616 (l.take m)∧val 18446744073709551616 (l.take m)=val 18446744073709551616 l∧e=.returned (.slice ao m c)∧w=w'
theorem gw (ao:Option Addr) (n c:Nat) (l:List Nat) (w:World) (hs:Sl .u64 w ao n c l) (hd:cj 18446744073709551616 l):
  Calls Tryz.prog 83 #[.slice ao n c] w (CutL ao n c l w):=by
 have hn:=hs.cap
 have hcM:=hs.max
 have HS:=Lib.hid hs;clear hs
 have HD:=Lib.hid hd;clear hd
 go_enter Tryz.func83,Tryz.ntmps83
 go_wp2
 go_loopg [0] n (fun g s wr=>∃k:Nat,k≤g∧k≤n∧(∀i,k≤i→l[i]?.getD 0=0)∧s=.slice ao k c∧wr=w)
 case atStart=>exact⟨n,Nat.le_refl _,by omega,by intro i hi;rw[List.getElem?_eq_none (by have:=HS.out.len;omega)];rfl,rfl,rfl⟩
 case round=>
  obtain⟨k,hkg,hk,hz,rfl,rfl⟩:=hrel
  have HZ:=Lib.hid hz;clear hz
  by_cases h0:k=0
  ·subst h0
   go_wp2
   go_ret
   exact⟨0,by omega,tw HD.out 0 (by omega) (by omega),jb2 _ _ _ HZ.out (by omega),rfl,rfl⟩
  ·obtain⟨j,rfl⟩:∃j,k=j + 1:=⟨k-1,by omega⟩
   obtain⟨b,o,rfl,hcell⟩:=HS.out.at (i:=j) (by omega)
   by_cases hd:l[j]?.getD 0=0
   ·rw[hd] at hcell
    go_wp2
    go_roundg (gk - 1)
    case measure=>omega
    case rel=>exact⟨j,by omega,by omega,by intro i hi;by_cases e:i=j;(· rw[e];exact hd);(· exact HZ.out i (by omega)),by simp,rfl⟩
   ·have hd':((l[j]?.getD 0:Nat):Int)≠0:=by omega
    go_wp2
    go_ret
    exact⟨j+1,by omega,tw HD.out _ (by have:=HS.out.len;omega) (by intro;simpa using hd),jb2 _ _ _ HZ.out (by have:=HS.out.len;omega),by simp,rfl⟩
def RetL (w:World) (x:Nat) (e:Ending) (w':World):Prop:=∃v,e=.returned v∧ck .u64 18446744073709551616 w' v x∧Below w.heap.size w w'
theorem qx (n:Nat) (w:World) (h1:n < 18446744073709551616):Calls Tryz.prog 80 #[.int .u64 (n:Int)] w (RetL w n):=by
 go_enter Tryz.func80,Tryz.ntmps80
 go_wp2_with fail
 have hb:Blk .u64 108 (w.alloc (Obj.cells #[Value.int IntKind.u64 ↑n] 108)) w.heap.size [n]:=Blk.new .u64 108 w [n]
 refine (gw _ 1 1 [n] _ (hb.sl (by simp)) ?_).mono ?_
 ·intro d hd;simp only[List.mem_cons,List.mem_nil_iff,or_false] at hd;omega
 rintro e w' ⟨m,hm,hc,hv,rfl,rfl⟩
 go_wp2
 go_ret
 refine⟨_,rfl,⟨_,_,_,_,rfl,(hb.sl (by simp)).take m hm,hc,?_⟩,(Below.refl _ _).alloc (Nat.le_refl _) _⟩
 rw[hv,ns]
theorem jf (v:Value) (x:Nat) (w:World) (h:ck .u64 18446744073709551616 w v x):Calls Tryz.prog 78 #[v] w fun e w'=>e=.returned (.bool (decide (x=1)))∧w=w':=by
 obtain⟨ao,n,c,l,rfl,hs,hc,rfl⟩:=h
 have hb:n≤9223372036854775807:=by have:=hs.cap;have:=hs.max;omega
 by_cases h1:n=1
 ·subst h1
  obtain⟨d,rfl⟩:=List.length_eq_one_iff.1 hs.len
  rw[ns]
  obtain⟨b,o,rfl,hcell⟩:=hs.at (i:=0) (by omega)
  simp only[Nat.add_zero,List.getElem?_cons_zero,Option.getD_some] at hcell
  clear hs hc
  by_cases hd:d=1
  ·subst hd
   go_enter Tryz.func78,Tryz.ntmps78
   go_wp2
   go_ret
   exact⟨rfl,rfl⟩
  ·have hd':((d:Int) == 1)=false:=by rw[beq_eq_false_iff_ne];omega
   rw[decide_eq_false hd]
   go_enter Tryz.func78,Tryz.ntmps78
   go_wp2
   go_ret
   exact⟨rfl,rfl⟩
 ·have h1':((n:Int) == 1)=false:=by rw[beq_eq_false_iff_ne];omega
  have hne:val 18446744073709551616 l≠1:=by
   intro e
   have:=hc.inj (by omega) (m:=[1]) ⟨by intro d hd;simp at hd;omega,by simp⟩ (by rw[e];rfl)
   have h2:=hs.len
   rw[this] at h2
   simp at h2
   omega
  rw[decide_eq_false hne]
  clear hs hc hne h1
  go_enter Tryz.func78,Tryz.ntmps78
  go_wp2
  go_ret
  exact⟨rfl,rfl⟩
theorem mj (ao bo:Option Addr) (n c m d:Nat) (l l':List Nat) (w:World) (hs:Sl .u64 w ao n c l) (hs':Sl .u64 w bo m d l') (hd:bi 18446744073709551616 l) (hd':bi 18446744073709551616 l'):
  Calls Tryz.prog 45 #[.slice ao n c,.slice bo m d] w (Quiet w (.int .i64 (gn (val 18446744073709551616 l) (val 18446744073709551616 l')))):=by
 have b1:n≤9223372036854775807:=by have:=hs.cap;have:=hs.max;omega
 have b2:m≤9223372036854775807:=by have:=hs'.cap;have:=hs'.max;omega
 have HS:=Lib.hid hs;clear hs
 have HS':=Lib.hid hs';clear hs'
 have HD:=Lib.hid hd;clear hd
 have HD':=Lib.hid hd';clear hd'
 rcases Nat.lt_trichotomy n m with h|h|h
 ·have h':¬ (n:Int)=m:=by omega
  have hfin:gn (val 18446744073709551616 l) (val 18446744073709551616 l')= -1:=by
   have:=HD.out.lt_of_length (by omega) HD'.out (by rw[HS.out.len,HS'.out.len];exact h)
   unfold gn;rw[if_pos this]
  rw[hfin];clear hfin
  go_enter Tryz.func45,Tryz.ntmps45
  go_wp2
  go_ret
  exact⟨0,rfl,rfl⟩
 ·subst h
  have Hr:∀r,r=gn (val 18446744073709551616 l) (val 18446744073709551616 l')→gn (val 18446744073709551616 l) (val 18446744073709551616 l')=r:=fun r h=>h.symm
  generalize hR:gn (val 18446744073709551616 l) (val 18446744073709551616 l')=R
  have HR:=Lib.hid hR;clear hR Hr
  go_enter Tryz.func45,Tryz.ntmps45
  go_wp2
  go_loopw [5] (fun iv wr=>∃k:Nat,k≤n∧iv=.int .i64 ((k:Int) - 1)∧l.drop k=l'.drop k∧∃q,wr=w.drewN q) (fun iv _=>(intOf iv + 1).toNat)
  case atStart=>exact⟨n,Nat.le_refl _,rfl,by rw[List.drop_of_length_le (by rw[HS.out.len];omega),List.drop_of_length_le (by rw[HS'.out.len];omega)],0,rfl⟩
  case round=>
   obtain⟨k,hk,rfl,hdrop,q,rfl⟩:=hrel
   have HDR:=Lib.hid hdrop;clear hdrop
   cases k with
   | zero=>
    rw[show ((0:Nat):Int) - 1= -1 from rfl]
    go_wp2
    go_ret
    refine⟨q,?_,rfl⟩
    have:=HDR.out
    rw[List.drop_zero,List.drop_zero] at this
    rw[←HR.out,this]
    unfold gn
    rw[if_neg (by omega),if_neg (by omega)]
    rfl
   | succ k=>
    obtain⟨b1,o1,rfl,hc1⟩:=HS.out.at (i:=k) (by omega)
    obtain⟨b2,o2,rfl,hc2⟩:=HS'.out.at (i:=k) (by omega)
    have hc1':∀q,(w.drewN q).cell? ⟨b1,o1 + k,none⟩=some (.int .u64 ((l[k]?.getD 0:Nat):Int)):=fun q=>hc1
    have hc2':∀q,(w.drewN q).cell? ⟨b2,o2 + k,none⟩=some (.int .u64 ((l'[k]?.getD 0:Nat):Int)):=fun q=>hc2
    rw[show ((k + 1:Nat):Int) - 1=(k:Int) from by omega]
    have d1:=HD.out.1.get (by omega) k
    have d2:=HD'.out.1.get (by omega) k
    have L1:=HS.out.len
    have L2:=HS'.out.len
    have HL1:=Lib.hid L1
    have HL2:=Lib.hid L2
    clear L1 L2
    rcases Nat.lt_trichotomy (l[k]?.getD 0) (l'[k]?.getD 0) with hlt|heq|hgt
    ·have hfin:R= -1:=by
      have:=py (by omega) HD.out.1 HD'.out.1 (by rw[HL1.out,HL2.out]) k (by rw[HL1.out];omega) HDR.out hlt
      rw[←HR.out];unfold gn;rw[if_pos this]
     subst hfin
     have hlt':((l[k]?.getD 0:Nat):Int) < ((l'[k]?.getD 0:Nat):Int):=by omega
     go_wp2
     go_quiet (fail)
     go_wp2
     go_ret
     exact⟨q + nq,rfl,World.drewN_drewN ..⟩
    ·have he1:(((l[k]?.getD 0:Nat):Int) == ((l'[k]?.getD 0:Nat):Int))=true:=by rw[beq_iff_eq];omega
     have hdr:=jc7 (by rw[HL1.out];omega) (by rw[HL2.out];omega) heq HDR.out
     have HDR':=Lib.hid hdr
     have HEQ:=Lib.hid heq
     clear hdr heq he1
     have hge1:((l'[k]?.getD 0:Nat):Int)≤((l[k]?.getD 0:Nat):Int):=by have:=HEQ.out;omega
     have hge2:((l[k]?.getD 0:Nat):Int)≤((l'[k]?.getD 0:Nat):Int):=by have:=HEQ.out;omega
     go_wp2
     go_quiet (fail)
     go_wp2
     go_quiet (fail)
     go_wp2
     go_roundw
     case rel=>exact⟨k,by omega,rfl,HDR'.out,_,(by first|rfl|(simp only[World.drewN_drewN];rfl))⟩
     all_goals first|(simp[intOf];done)|(simp[intOf];omega)
    ·have hfin:R=1:=by
      have:=py (by omega) HD'.out.1 HD.out.1 (by rw[HL1.out,HL2.out]) k (by rw[HL2.out];omega) HDR.out.symm hgt
      rw[←HR.out];unfold gn;rw[if_neg (by omega),if_pos this]
     subst hfin
     have hge1:((l'[k]?.getD 0:Nat):Int)≤((l[k]?.getD 0:Nat):Int):=by omega
     have hgt':((l'[k]?.getD 0:Nat):Int) < ((l[k]?.getD 0:Nat):Int):=by omega
     go_wp2
     go_quiet (fail)
     go_wp2
     go_quiet (fail)
     go_wp2
     go_ret
     exact⟨_,rfl,(by first|rfl|(simp only[World.drewN_drewN];rfl))⟩
 ·have h':¬ (n:Int)=m:=by omega
  have hfin:gn (val 18446744073709551616 l) (val 18446744073709551616 l')=1:=by
   have:=HD'.out.lt_of_length (by omega) HD.out (by rw[HS.out.len,HS'.out.len];exact h)
   unfold gn;rw[if_neg (by omega),if_pos this]
  rw[hfin];clear hfin
  go_enter Tryz.func45,Tryz.ntmps45
  go_wp2
  go_ret
  exact⟨0,rfl,rfl⟩
end Go.Proofs.YtbnomdlojmgigaaGreat
