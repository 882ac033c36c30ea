/-
  A range over the edges of a polygon: what a caller's body has to keep; outside and within a round of another range.
-/
import Derived.Test.YtidmjdmmpajooaaGreatPkW35W
import Derived.Test.YtidmjdmmpajooaaGreatPkW1W
import Derived.Test.YtidmjdmmpajooaaGreatPlAW
import Derived.Test.YtidmjdmmpajooaaGreatPkW14W
import Derived.Deep.AppendLies
import Derived.OwnWalkIn
import Derived.Sort.CutIn
set_option linter.unusedSimpArgs false
set_option linter.unusedVariables false
set_option maxRecDepth 100000
set_option maxHeartbeats 16000000
namespace Go.Proofs.YtidmjdmmpajooaaGreat
open Go Go.RowKit Dg
theorem kb {f:FuncId} {args:Array Value} {w:World} {R:Ending→World→Prop} {l n:Nat} (h:Calls Tryz.prog f args w R):CallsIn (Fence.wide.inRound l) n Tryz.prog f args w R:=(callsIn_wide.2 h).inRound l
theorem CallsIn.absI {F:Fence} {n:Nat} {P:Program} {f:FuncId} {args:Array Value} {w:World} {R:Ending→World→Prop} (h:∀w',w'=w→CallsIn F n P f args w' R):CallsIn F n P f args w R:=h w rfl
theorem Code.absI {F:Fence} {n:Nat} {P:Program} {c:Code} {Q:Exit→Act→World→Prop} {a:Act} {w:World} (h:∀w',w'=w→c.wpIn F n P Q a w'):c.wpIn F n P Q a w:=h w rfl
theorem wpIn_room {P:Program} {c:Code} {Q:Exit→Act→World→Prop} {a:Act} {w:World} {l n m:Nat} (h:c.wpIn (Fence.wide.inRound l) n P Q a w):c.wpIn (Fence.wide.inRound l) m P Q a w:=fun b k cs hr hf _=>h b k cs hr hf (fun d hd=>by cases hd)
def endE (lp:Nat) (B0:LoopState→Option Code→Loop) (w0:World) (bx:Nat) (v:Value) (n1:Nat) (W:World) (I:Nat→World→Prop) (Ir:Code→World→Prop) (k:Nat) (e:Exit) (W3:World):Prop:=
 W3.heap[lp]?=some (.loop (B0 .busy none))∧Below w0.heap.size w0 W3∧Bx W3 bx 32 #[v]∧Kp n1 W W3∧
  match e with
  | .normal=>I (k + 1) W3
  | .ret=>Ir .ret W3
  | .exit id=>Ir (.exit id) W3
  | _=>False
structure jz (n:Nat) (I:World→Prop):Prop where
 b:∀W W',I W→Below W.heap.size W W'→I W'
 p:∀W l r r',n≤l→I W→W.heap[l]?=some (.loop r)→I (W.putObj l (.loop r'))
theorem jz.and {n:Nat} {I J:World→Prop} (h:jz n I) (k:jz n J):jz n (fun W=>I W∧J W):=
 ⟨fun W W' hI hb=>⟨h.b W W' hI.1 hb,k.b W W' hI.2 hb⟩,fun W l r r' hl hI hp=>⟨h.p W l r r' hl hI.1 hp,k.p W l r r' hl hI.2 hp⟩⟩
theorem jz.bx (n:Nat) {g:Nat} {t:TypeId} {cs:Array Value}:jz n (fun W=>Bx W g t cs):=⟨fun _ _ h hb=>h.mono hb,fun _ _ _ _ _ h hp=>h.putL hp⟩
theorem jz.below {n n0:Nat} {w:World} (h:n0≤n) (hw:n0≤w.heap.size) (_:n0=w.heap.size:=by rfl):jz n (fun W=>Below n0 w W):=by
 rename_i e;subst e
 exact⟨fun _ _ h hb=>ar h hb,fun W l r r' hl h2 hp=>h2.trans (belowK_b (ag _) W l _ _ (by omega) hp rfl rfl)⟩
theorem jz.prop (n:Nat) (p:Prop):jz n (fun _=>p):=⟨fun _ _ h _=>h,fun _ _ _ _ _ h _=>h⟩
theorem jz.blk {n g:Nat} {o:Obj} (h:g < n):jz n (fun W=>W.heap[g]?=some o):=⟨fun _ _ h hb=>uq h hb,fun W l r r' hl h2 hp=>(World.putObj_heap_other (by omega)).trans h2⟩
theorem jz.atB {n b:Nat} {o:Obj} (h:b < n):jz n (fun W=>AtB b o W):=⟨fun _ _ h hb=>Go.Proofs.YtidmjdmmpajooaaGreat.atB _ _ _ h hb,fun W l r r' hl h2 hp=>⟨(World.putObj_heap_other (by omega)).trans h2.h⟩⟩
theorem jz.kp {n m:Nat} {A:World} (h:A.heap.size≤n):jz n (fun W=>Kp m A W):=⟨fun W W' h hb=>h.below hb,fun W l r r' hl h2 hp=>h2.putL (.inr (by omega)) _⟩
section
variable {ps:Array Tmp} {assign body:Code} {Q:Exit→Act→World→Prop} {a:Act} {w:World} {g:Operand}
theorem edgesR (bx:Nat) (v:Value) (l:List Pt) (w0:World) (I:Nat→World→Prop) (Ir:Code→World→Prop)
  (hg:a.eval g=.func (.func 65) #[] #[.pointer (some ⟨bx,0,none⟩)]) (hps:ps.size=2)
  (hl:Pts w0 v l) (h2:l.length≤1000000000) (hb0:Below w0.heap.size w0 w) (Blx:Bx w bx 32 #[v])
  (hI:∀k,jz w.heap.size (I k)) (hIr:∀c,jz w.heap.size (Ir c)) (h0:I 0 w)
  (hbody:∀(B0:LoopState→Option Code→Loop) (lp k:Nat) (W:World) (R:Ending→World→Prop),w.heap.size < lp→lp < w.heap.size + 2→k < l.length→w.heap.size + 2≤W.heap.size→W.heap[lp]?=some (.loop (B0 .ready none))→
   Below w0.heap.size w0 W→Bx W bx 32 #[v]→I k W→W.heap[w.heap.size]?=some (.deferred (some []))→
   (∀e a W3,endE lp B0 w0 bx v (w.heap.size + 2) W I Ir k e W3→W3.heap[w.heap.size]?=some (.deferred (some []))→endJ lp B0 R e a W3)→
   assign.wpIn (Fence.wide.inRound lp) 0 Tryz.prog (Exit.then (fun a₁ w₁=>w₁.heap[lp]?=some (.loop (B0 .ready none))∧
     body.wpIn (Fence.wide.inRound lp) 0 Tryz.prog (endJ lp B0 R) a₁ (w₁.putObj lp (.loop (B0 .busy none)))) (fun _ _ _=>False))
     {tmps:=(ps.zip #[.int .i64 k,egV (ptZ l k) (nxZ l k)]).foldl (fun t (p,v)=>t.setIfInBounds p v) a.tmps,defers:=[]} W)
  (hend:∀(D:Nat) (W:World),D=w.heap.size→w.heap.size + 2≤W.heap.size→W.heap[D]?=some (.deferred (some []))→Below w0.heap.size w0 W→I l.length W→Q .normal {a with defers:={target:=.collected D,args:=#[]} ::a.defers} W)
  (hret:∀(c:Code) (D:Nat) (W:World),D=w.heap.size→w.heap.size + 2≤W.heap.size→W.heap[D]?=some (.deferred (some []))→Below w0.heap.size w0 W→Ir c W→c.wp Tryz.prog Q {a with defers:={target:=.collected D,args:=#[]} ::a.defers} W):
  (Code.rangeFunc g ps assign body).wp Tryz.prog Q a w:=by
 refine (wpIn_wide (n:=2)).1 (rangeJointR rfl (by omega) (gf:=65) (lb:=#[.pointer (some ⟨bx,0,none⟩)]) hg trivial (enters_of Tryz.func65 (by kernel_rfl) rfl) ?_)
 intro B0 lp D W1 hlp hD B3 hyl
 have lx:=Blx.lt
 have hn:=hb0.size
 have n1:W1.heap.size=w.heap.size + 2:=by rw[B3];simp
 have hb:Below w.heap.size w W1:=by rw[B3];exact ((Below.refl _ _).alloc (ag _) _).alloc (by simp) _
 have e1:W1.heap[lp]?=some (.loop (B0 .ready none)):=by rw[B3,hlp];have:=World.alloc_heap_new (w.alloc (.deferred (some []))) (.loop (B0 .ready none));rwa [World.size_alloc] at this
 have e2:W1.heap[D]?=some (.deferred (some [])):=by rw[B3,hD];exact (Below.heap_alloc _ _ _ (by simp)).trans (World.alloc_heap_new w _)
 have SB:jz w.heap.size (fun W=>Below w0.heap.size w0 W):=.below hn (ag _)
 have SX:jz w.heap.size (fun W=>Bx W bx 32 #[v]):=.bx _
 obtain⟨JE,B1⟩:∃JE:Nat→World→Prop,JE=fun k W=>w.heap.size + 2≤W.heap.size∧W.heap[lp]?=some (.loop (B0 .ready none))∧W.heap[D]?=some (.deferred (some []))∧Below w0.heap.size w0 W∧Bx W bx 32 #[v]∧I k W:=⟨_,rfl⟩
 obtain⟨JX,B2⟩:∃JX:World→Prop,JX=fun W=>∃c,w.heap.size + 2≤W.heap.size∧W.heap[lp]?=some (.loop (B0 .done (some c)))∧W.heap[D]?=some (.deferred (some []))∧Below w0.heap.size w0 W∧Bx W bx 32 #[v]∧Ir c W:=⟨_,rfl⟩
 refine callsIn_wide.2 ?_
 refine (edg_in lp bx v l JE JX w0 W1 hl h2 (by omega) (fun k W h=>?_) (fun W h=>?_) (fun k W W' h hb=>?_) (fun W W' h hb=>?_) ?hy ?h0).mono ?done
 ·subst B1;exact⟨h.2.2.2.1,h.2.2.2.2.1.at 0 rfl⟩
 ·subst B2;obtain⟨c,h⟩:=h;exact⟨h.2.2.2.1,h.2.2.2.2.1.at 0 rfl⟩
 ·subst B1;obtain⟨h1,h2,h3,h4,h5,h6⟩:=h;exact⟨Nat.le_trans h1 hb.size,uq h2 hb,uq h3 hb,ar h4 hb,h5.mono hb,(hI k).b _ _ h6 hb⟩
 ·subst B2;obtain⟨c,h1,h2,h3,h4,h5,h6⟩:=h;exact⟨c,Nat.le_trans h1 hb.size,uq h2 hb,uq h3 hb,ar h4 hb,h5.mono hb,(hIr c).b _ _ h6 hb⟩
 case h0=>subst B1;exact⟨by omega,e1,e2,ar hb0 hb,Blx.mono hb,(hI 0).b _ _ h0 hb⟩
 case hy=>
  intro k W hk hJ hnn
  have hJ':w.heap.size + 2≤W.heap.size∧W.heap[lp]?=some (.loop (B0 .ready none))∧W.heap[D]?=some (.deferred (some []))∧Below w0.heap.size w0 W∧Bx W bx 32 #[v]∧I k W:=by rw[B1] at hJ;exact hJ
  obtain⟨j1,j2,j3,j4,j5,j6⟩:=hJ'
  refine hyl #[_,_] W _ hps.symm j2 ?_
  refine hbody B0 lp k W _ (by omega) (by omega) hk j1 j2 j4 j5 j6 (by rw[←hD];exact j3) ?_
  rintro e a3 W3 ⟨q1,q2,q3,q4,q5⟩ q6
  have z3:w.heap.size + 2≤W3.heap.size:=Nat.le_trans j1 q4.1
  have hK:∀o,Kp W1.heap.size W (W3.putObj lp o):=fun o=>by rw[n1];exact q4.putL (.inl (by omega)) o
  have B5:∀o,(W3.putObj lp o).heap.size=W3.heap.size:=fun o=>World.putObj_size
  have hD3:∀o,(W3.putObj lp o).heap[D]?=some (.deferred (some [])):=fun o=>(World.putObj_heap_other (by omega)).trans (by rw[hD];exact q6)
  have B4:∀o,(W3.putObj lp o).heap[lp]?=some o:=fun o=>World.putObj_heap_same (by omega)
  cases e with
  | normal=>exact⟨q1,hK _,.inl ⟨rfl,by subst B1;exact⟨by rw[B5];exact z3,B4 _,hD3 _,SB.p _ _ _ _ (by omega) q2 q1,SX.p _ _ _ _ (by omega) q3 q1,(hI _).p _ _ _ _ (by omega) q5 q1⟩⟩⟩
  | ret=>exact⟨q1,hK _,.inr ⟨rfl,by subst B2;exact⟨.ret,by rw[B5];exact z3,B4 _,hD3 _,SB.p _ _ _ _ (by omega) q2 q1,SX.p _ _ _ _ (by omega) q3 q1,(hIr _).p _ _ _ _ (by omega) q5 q1⟩⟩⟩
  | exit id=>exact⟨q1,hK _,.inr ⟨rfl,by subst B2;exact⟨.exit id,by rw[B5];exact z3,B4 _,hD3 _,SB.p _ _ _ _ (by omega) q2 q1,SX.p _ _ _ _ (by omega) q3 q1,(hIr _).p _ _ _ _ (by omega) q5 q1⟩⟩⟩
  | goto t=>exact q5.elim
  | panic ch=>exact q5.elim
  | outgrown=>exact q5.elim
 case done=>
  rintro e W5 ⟨⟨x,rfl⟩,hJ|hJ⟩
  ·subst B1
   obtain⟨j1,j2,j3,j4,j5,j6⟩:=hJ
   exact⟨⟨_,rfl⟩,.inl ⟨j2,hend D _ hD (by rw[World.putObj_size];exact j1) ((World.putObj_heap_other (by omega)).trans j3) (SB.p _ _ _ _ (by omega) j4 j2) ((hI _).p _ _ _ _ (by omega) j6 j2)⟩⟩
  ·subst B2
   obtain⟨c,j1,j2,j3,j4,j5,j6⟩:=hJ
   exact⟨⟨_,rfl⟩,.inr ⟨c,j2,wpIn_wide.2 (hret c D _ hD (by rw[World.putObj_size];exact j1) ((World.putObj_heap_other (by omega)).trans j3) (SB.p _ _ _ _ (by omega) j4 j2) ((hIr _).p _ _ _ _ (by omega) j6 j2))⟩⟩
theorem edgesN (bx:Nat) (v:Value) (l:List Pt) (w0:World) (I:Nat→World→Prop) (Ir:Code→World→Prop) {l₀:Nat} {r₀:Loop}
  (hl₀:w.heap[l₀]?=some (.loop r₀))
  (hg:a.eval g=.func (.func 65) #[] #[.pointer (some ⟨bx,0,none⟩)]) (hps:ps.size=2)
  (hl:Pts w0 v l) (h2:l.length≤1000000000) (hb0:Below w0.heap.size w0 w) (Blx:Bx w bx 32 #[v])
  (hI:∀k,jz w.heap.size (I k)) (hIr:∀c,jz w.heap.size (Ir c)) (h0:I 0 w)
  (hbody:∀(B0:LoopState→Option Code→Loop) (lp k:Nat) (W:World) (R:Ending→World→Prop),w.heap.size≤lp→lp < w.heap.size + 1→k < l.length→w.heap.size + 1≤W.heap.size→W.heap[lp]?=some (.loop (B0 .ready none))→
   Below w0.heap.size w0 W→Bx W bx 32 #[v]→I k W→
   (∀e a W3,endE lp B0 w0 bx v (w.heap.size + 1) W I Ir k e W3→endJ lp B0 R e a W3)→
   assign.wpIn (Fence.wide.inRound lp) 0 Tryz.prog (Exit.then (fun a₁ w₁=>w₁.heap[lp]?=some (.loop (B0 .ready none))∧
     body.wpIn (Fence.wide.inRound lp) 0 Tryz.prog (endJ lp B0 R) a₁ (w₁.putObj lp (.loop (B0 .busy none)))) (fun _ _ _=>False))
     {tmps:=(ps.zip #[.int .i64 k,egV (ptZ l k) (nxZ l k)]).foldl (fun t (p,v)=>t.setIfInBounds p v) a.tmps,defers:=[]} W)
  (hend:∀(W:World),w.heap.size + 1≤W.heap.size→Below w0.heap.size w0 W→I l.length W→Q .normal a W)
  (hret:∀(c:Code) (W:World),w.heap.size + 1≤W.heap.size→Below w0.heap.size w0 W→Ir c W→c.wpIn (Fence.wide.inRound l₀) 0 Tryz.prog Q a W):
  (Code.rangeFunc g ps assign body).wpIn (Fence.wide.inRound l₀) 0 Tryz.prog Q a w:=by
 refine wpIn_room (n:=2) ?_
 refine rangeJointN rfl hl₀ (by omega) (gf:=65) (lb:=#[.pointer (some ⟨bx,0,none⟩)]) hg trivial (enters_of Tryz.func65 (by kernel_rfl) rfl) ?_
 intro B0 lp W1 hlp B3 hyl
 have lx:=Blx.lt
 have hn:=hb0.size
 have n1:W1.heap.size=w.heap.size + 1:=by rw[B3];simp
 have hb:Below w.heap.size w W1:=by rw[B3];exact (Below.refl _ _).alloc (ag _) _
 have e1:W1.heap[lp]?=some (.loop (B0 .ready none)):=by rw[B3,hlp];exact World.alloc_heap_new w (.loop (B0 .ready none))
 have SB:jz w.heap.size (fun W=>Below w0.heap.size w0 W):=.below hn (ag _)
 have SX:jz w.heap.size (fun W=>Bx W bx 32 #[v]):=.bx _
 obtain⟨JE,B1⟩:∃JE:Nat→World→Prop,JE=fun k W=>w.heap.size + 1≤W.heap.size∧W.heap[lp]?=some (.loop (B0 .ready none))∧Below w0.heap.size w0 W∧Bx W bx 32 #[v]∧I k W:=⟨_,rfl⟩
 obtain⟨JX,B2⟩:∃JX:World→Prop,JX=fun W=>∃c,w.heap.size + 1≤W.heap.size∧W.heap[lp]?=some (.loop (B0 .done (some c)))∧Below w0.heap.size w0 W∧Bx W bx 32 #[v]∧Ir c W:=⟨_,rfl⟩
 refine kb ?_
 refine (edg_in lp bx v l JE JX w0 W1 hl h2 (by omega) (fun k W h=>?_) (fun W h=>?_) (fun k W W' h hb=>?_) (fun W W' h hb=>?_) ?hy ?h0).mono ?done
 ·subst B1;exact⟨h.2.2.1,h.2.2.2.1.at 0 rfl⟩
 ·subst B2;obtain⟨c,h⟩:=h;exact⟨h.2.2.1,h.2.2.2.1.at 0 rfl⟩
 ·subst B1;obtain⟨h1,h2,h4,h5,h6⟩:=h;exact⟨Nat.le_trans h1 hb.size,uq h2 hb,ar h4 hb,h5.mono hb,(hI k).b _ _ h6 hb⟩
 ·subst B2;obtain⟨c,h1,h2,h4,h5,h6⟩:=h;exact⟨c,Nat.le_trans h1 hb.size,uq h2 hb,ar h4 hb,h5.mono hb,(hIr c).b _ _ h6 hb⟩
 case h0=>subst B1;exact⟨by omega,e1,ar hb0 hb,Blx.mono hb,(hI 0).b _ _ h0 hb⟩
 case hy=>
  intro k W hk hJ hnn
  have hJ':w.heap.size + 1≤W.heap.size∧W.heap[lp]?=some (.loop (B0 .ready none))∧Below w0.heap.size w0 W∧Bx W bx 32 #[v]∧I k W:=by rw[B1] at hJ;exact hJ
  obtain⟨j1,j2,j4,j5,j6⟩:=hJ'
  refine hyl #[_,_] W _ hps.symm j2 ?_
  refine hbody B0 lp k W _ (by omega) (by omega) hk j1 j2 j4 j5 j6 ?_
  rintro e a3 W3 ⟨q1,q2,q3,q4,q5⟩
  have z3:w.heap.size + 1≤W3.heap.size:=Nat.le_trans j1 q4.1
  have hK:∀o,Kp W1.heap.size W (W3.putObj lp o):=fun o=>by rw[n1];exact q4.putL (.inl (by omega)) o
  have B5:∀o,(W3.putObj lp o).heap.size=W3.heap.size:=fun o=>World.putObj_size
  have B4:∀o,(W3.putObj lp o).heap[lp]?=some o:=fun o=>World.putObj_heap_same (by omega)
  cases e with
  | normal=>exact⟨q1,hK _,.inl ⟨rfl,by subst B1;exact⟨by rw[B5];exact z3,B4 _,SB.p _ _ _ _ (by omega) q2 q1,SX.p _ _ _ _ (by omega) q3 q1,(hI _).p _ _ _ _ (by omega) q5 q1⟩⟩⟩
  | ret=>exact⟨q1,hK _,.inr ⟨rfl,by subst B2;exact⟨.ret,by rw[B5];exact z3,B4 _,SB.p _ _ _ _ (by omega) q2 q1,SX.p _ _ _ _ (by omega) q3 q1,(hIr _).p _ _ _ _ (by omega) q5 q1⟩⟩⟩
  | exit id=>exact⟨q1,hK _,.inr ⟨rfl,by subst B2;exact⟨.exit id,by rw[B5];exact z3,B4 _,SB.p _ _ _ _ (by omega) q2 q1,SX.p _ _ _ _ (by omega) q3 q1,(hIr _).p _ _ _ _ (by omega) q5 q1⟩⟩⟩
  | goto t=>exact q5.elim
  | panic ch=>exact q5.elim
  | outgrown=>exact q5.elim
 case done=>
  rintro e W5 ⟨⟨x,rfl⟩,hJ|hJ⟩
  ·subst B1
   obtain⟨j1,j2,j4,j5,j6⟩:=hJ
   exact⟨⟨_,rfl⟩,.inl ⟨j2,hend _ (by rw[World.putObj_size];exact j1) (SB.p _ _ _ _ (by omega) j4 j2) ((hI _).p _ _ _ _ (by omega) j6 j2)⟩⟩
  ·subst B2
   obtain⟨c,j1,j2,j4,j5,j6⟩:=hJ
   exact⟨⟨_,rfl⟩,.inr ⟨c,j2,wpIn_room (hret c _ (by rw[World.putObj_size];exact j1) (SB.p _ _ _ _ (by omega) j4 j2) ((hIr _).p _ _ _ _ (by omega) j6 j2))⟩⟩
end
end Go.Proofs.YtidmjdmmpajooaaGreat
namespace Go.Proofs.YtidmjdmmpajooaaGreat
open Go Go.RowKit Dg
theorem wpListIn.stop {F:Fence} {n:Nat} {P:Program} {ops:Array Oper} {Q:Exit→Act→World→Prop} {l:List Oper} {a:Act} {w:World} (h:Stopped (wpListIn F n P ops Q l a w)):wpListIn F n P ops Q l a w:=h.out
theorem wpListIn.absI {F:Fence} {n:Nat} {P:Program} {ops:Array Oper} {Q:Exit→Act→World→Prop} {l:List Oper} {a:Act} {w:World} (h:∀w',w'=w→wpListIn F n P ops Q l a w'):wpListIn F n P ops Q l a w:=h w rfl
theorem tv {F:Fence} {N:Nat} {P:Program} (w:World) {ops:Array Oper} {rest:List Oper} {o:Oper} {a:Act} {Q:Exit→Act→World→Prop} (hgd:o.guard=none) (s x:Operand) (t:TypeId)
  (ho:o.op=.call {callee:=.builtin .append,args:=#[s,x],argTypes:=#[t,t]})
  (base:Nat) (e:TypeId) (i:TypeInfo) (z:Value) (size bytes:Nat) (ht:P.underlying t=some (.slice e)) (hi:P.info? e=some i) (hz:i.zero=some z)
  (hsize:i.size=size) (hby:i.bytes=bytes) (hzs:z.cells.size=size) (hsz:0 < size)
  (v:Value) (n:Nat) (xs:List Value) (hs:a.eval s=v) (hown:w.ownsRow base e size v n xs)
  (ad:Addr) (m c:Nat) (news:List Value) (hx:a.eval x=.slice (some ad) m c) (hl:news.length=m * size) (hnews:∀j u,news[j]?=some u→w.cell? (ad.add j)=some u) (h1:∀u∈news,u.oneCell'=true)
  (hm:0 < m) (h63:n + m≤maxLen) (hbytes:(n + m) * bytes≤140737488355328) (hbase:base≤w.heap.size) (H:Nat) (hH:w.heap.size=H)
  (h:∀g B0 w',w'.ownsRow base e size (.slice (some ⟨g,0,none⟩) (n + m) B0) (n + m) (xs ++ news)→w.grownBy w' v.ownBlock→(v.ownBlock=some g∨g=H)→g < w'.heap.size→wpListIn F N P ops Q rest (a.put o.dst (.slice (some ⟨g,0,none⟩) (n + m) B0)) w'):wpListIn F N P ops Q (o ::rest) a w:=by
 refine wpListIn_plain hgd fun K hK'=>?_
 obtain⟨g,B0,w',hr,h2,h3,h4,h5⟩:=run_append_lies (P:=P) w t o.type base e i z size bytes ht hi hz hsize hby hzs hsz v n xs hown ad m c news hl hnews h1 hm h63 hbytes hbase H hH
 unfold Oper.wpIn
 refine⟨?_,?_⟩
 ·simp[Oper.about,ho,resolve,Target.leads,Sem.run_pure]
 ·rw[Oper.semAt_plain F _ _ (by rw[ho];intro c hc';cases hc')]
  simp[execOp,ho,resolve,invoke,builtin,hs,hx,hr,Result.andThen]
  exact hK' _ _ (h g B0 w' h2 h3 h4 h5)
end Go.Proofs.YtidmjdmmpajooaaGreat
namespace Go.Proofs.YtidmjdmmpajooaaGreat
open Go.RowKit Dg
attribute [local go_sem ↓] Go.wp_at_zero Go.wp_at_succ
attribute [local go_sem] Oper.semAt_some
section
variable {α:Type} {n:Nat}
theorem jz.pv (n:Nat) {v:Value} {q:Rat}:jz n (fun W=>PV W v q):=⟨fun _ _ h hb=>h.mono hb,fun _ _ _ _ _ h hp=>h.keep (.putL hp)⟩
theorem jz.own {base size:Nat} {t T:TypeId} {R:World→List Value→α→Prop} (hR:ir R) (n:Nat) {g:Nat} {xs:List α}:jz n (fun W=>∃ov,Bx W g t #[ov]∧cw base T size R W ov xs):=
 ⟨fun _ _ ⟨ov,h,k⟩ hb=>⟨ov,h.mono hb,k.mono hR hb⟩,fun _ _ _ _ _ ⟨ov,h,k⟩ hp=>⟨ov,h.putL hp,k.putL hR hp⟩⟩
end
theorem twK_wn {l:List Pt} (h:∀p∈l,WP 1048576 p):∀k:Nat,k≤1000→Wn ((k:Int) * 2199023255552) (twK l k)
 | 0,_=>⟨by show -(((0:Nat):Int) * 2199023255552)≤(0:Int);omega,by show (0:Int)≤((0:Nat):Int) * 2199023255552;omega⟩
 | k + 1,hk=>by
  have h1:=twK_wn h k (by omega)
  have h2:=Wn.sub (Wn.mul (WP.pt (by decide) h k).1 (WP.pt (by decide) h ((k + 1) % l.length)).2) (Wn.mul (WP.pt (by decide) h k).2 (WP.pt (by decide) h ((k + 1) % l.length)).1)
  have h3:Wn ((k:Int) * 2199023255552 + (1048576 * 1048576 + 1048576 * 1048576)) (twK l (k + 1)):=h1.add h2
  exact h3.mono (by push_cast;omega)
theorem pl_twice (v:Value) (l:List Pt) (w:World) (hl:Pts w v l) (hn:l.length≤1000) (hp:∀p∈l,WP 1048576 p):
  Calls Tryz.prog 56 #[v] w (fj w (.int .i64 (twZ l))):=by
 obtain⟨ao,cap,rfl,hc1,hc2,hc3⟩:=hl.slice
 have hs:=Below.refl w.heap.size w
 have HL:=ae hl
 have HP:=ae hp
 have HN:=ae hn
 clear hl hp
 refine (callsIn_wide (n:=2)).1 (callsIn_of_wp_marks Tryz.func56 rfl trivial ?_)
 simp only[Tryz.ntmps56,List.size_toArray,List.length_cons,List.length_nil,Nat.reduceAdd,Nat.reduceSub,Array.replicate_succ,
   Array.replicate_zero,List.push_toArray,List.append_toArray,List.nil_append,List.cons_append]
 refine wpIn_wide.2 ?_
 go_wp2_with fail
 refine Calls.abs ?_
 intro w1 hW
 have hG:Gr [] w w1:=by rw[hW];exact (Gr.refl _ _).alloc
 have C6:=hs.size
 have B1:Bx w1 (w.heap.size) 3 #[.int .i64 0]:=by rw[hW];exact (Bx.new0 _ _ _)
 replace hs:=hs.trans (hG.below0 hs.size)
 clear hW hG
 have C4:=B1.lt
 have C9:=B1.lt
 with_reducible refine (ph _ _ _ _).mono ?_
 rintro e w2 ⟨rfl,B2,hb⟩
 revert B1;refine mS hs hb ?_;clear hs hb;intro hs B1
 go_wp2_with fail
 have Cb:=B1.lt
 have By:=B2.lt
 have nz_0:=hs.size
 refine edgesR (w1.heap.size) _ l w (fun k W=>Bx W (w.heap.size) 3 #[.int .i64 (twK l k)]) (fun c W=>False) rfl rfl HL.out (by omega) hs B2 (fun _=>(.bx _)) (fun c=>(.prop _ _)) (by exact B1) ?hbody0 ?hend0 ?hret0
 case hbody0=>
  clear hs B2 B1
  intro Bh Bk k W0 RR0 C2 C3 hk0 hn0 e1 hs B2 hI hD Bm
  replace Bm:=ae Bm
  replace e1:AtB Bk (.loop (Bh .ready none)) W0:=⟨e1⟩
  replace hD:AtB w2.heap.size (.deferred (some [])) W0:=⟨hD⟩
  have B1:=hI
  clear hI
  have B4:=Kp.refl (w2.heap.size + 2) W0
  obtain⟨p,Hp⟩:∃z:Pt,z=ptZ l k:=⟨_,rfl⟩
  obtain⟨q,Hq⟩:∃z:Pt,z=nxZ l k:=⟨_,rfl⟩
  rw[←Hp,←Hq]
  replace Hp:=ae Hp
  replace Hq:=ae Hq
  have Bp:WP 1048576 p:=by rw[Hp.out];exact WP.pt (by decide) HP.out _
  have Bq:WP 1048576 q:=by rw[Hq.out];exact WP.pt (by decide) HP.out _
  have BW:IntKind.i64.wrap (twK l k + (p.1 * q.2 - p.2 * q.1))=twK l k + (p.1 * q.2 - p.2 * q.1):=by rw[show twK l k + (p.1 * q.2 - p.2 * q.1)=twK l (k + 1) from by rw[Hp.out,Hq.out];rfl];exact (twK_wn HP.out (k + 1) (by omega)).wrap (by omega)
  gi_wp2
  repeat ((with_reducible refine And.intro ?_ ?_);exact trivial;gi_wp2)
  generalize hW_:(W0.alloc (.cells #[.int .i64 p.1,.int .i64 p.2,.int .i64 q.1,.int .i64 q.2] 69))=w3
  have hW:=hW_.symm
  clear hW_
  have hG:Gr [] W0 w3:=by rw[hW];exact (Gr.refl _ _).alloc
  have C7:=hs.size
  have Ce:=B1.lt
  have C1:=B2.lt
  have B3:Bx w3 (W0.heap.size) 69 #[.int .i64 p.1,.int .i64 p.2,.int .i64 q.1,.int .i64 q.2]:=by rw[hW];exact (Bx.new0 _ _ _)
  replace hs:=hs.trans (hG.below0 hs.size)
  replace e1:=atB _ _ _ e1 (hG.below0 (ag _))
  replace hD:=atB _ _ _ hD (hG.below0 (ag _))
  replace B4:=kpJ _ _ _ B4 (hG.below0 (ag _))
  revert B2 B1;refine g0 hG ?_;intro B2 B1
  clear hW hG
  have C5:=B3.lt
  refine⟨e1.h,?_⟩
  obtain⟨w4,B6⟩:∃x,x=w3.putObj Bk (.loop (Bh .busy none)):=⟨_,rfl⟩
  rw[←B6]
  have hsl:=hs.size
  replace hs:Below w.heap.size w w4:=by rw[B6];exact hs.trans (belowK_b (ag _) _ Bk _ _ (by omega) e1.h rfl rfl)
  replace B1:Bx w4 (w.heap.size) 3 #[.int .i64 (twK l k)]:=by rw[B6];exact B1.putL e1.h
  replace B2:Bx w4 (w1.heap.size) 32 #[.slice ao l.length cap]:=by rw[B6];exact B2.putL e1.h
  replace B3:Bx w4 (W0.heap.size) 69 #[.int .i64 p.1,.int .i64 p.2,.int .i64 q.1,.int .i64 q.2]:=by rw[B6];exact B3.putL e1.h
  replace hD:AtB w2.heap.size (.deferred (some [])) w4:=by rw[B6];exact⟨(World.putObj_heap_other (by omega)).trans hD.h⟩
  replace B4:Kp (w2.heap.size + 2) W0 w4:=by rw[B6];exact B4.putL (by have:=B4.1;omega) _
  replace e1:AtB Bk (.loop (Bh .busy none)) w4:=by rw[B6];exact⟨World.putObj_heap_same (Array.getElem?_eq_some_iff.1 e1.h).1⟩
  clear B6 hsl
  gi_upto_region 4 with fail
  repeat ((with_reducible refine And.intro ?_ ?_);exact trivial;gi_upto_region 4 with fail)
  refine jb5 (S:=fun w'=>w'.cell? ⟨w.heap.size,0,none⟩=some (.int .i64 (twK l k))∧w'.cell? ⟨W0.heap.size,0,none⟩=some (.int .i64 p.1)∧w'.cell? ⟨W0.heap.size,1,none⟩=some (.int .i64 p.2)∧w'.cell? ⟨W0.heap.size,2,none⟩=some (.int .i64 q.1)∧w'.cell? ⟨W0.heap.size,3,none⟩=some (.int .i64 q.2)) (by kernel_rfl) (fun _ _ h=>(show False from h)) (by kernel_rfl) 7 ?_
  refine cq.abs ?_
  intro w5 hW
  have hb:Below w4.heap.size w4 w5:=by rw[hW];exact de _
  replace hs:=ar hs hb
  revert B1 B2 B3;refine mo hb ?_;intro B1 B2 B3
  replace e1:=atB _ _ _ e1 hb
  replace hD:=atB _ _ _ hD hb
  replace B4:=kpJ _ _ _ B4 hb
  clear hb hW
  have B8:=B1.a0
  refine B3.k4 fun B9 Ba Bb Bc=>?_
  have hH:=(show w5.cell? ⟨w.heap.size,0,none⟩=some (.int .i64 (twK l k))∧w5.cell? ⟨W0.heap.size,0,none⟩=some (.int .i64 p.1)∧w5.cell? ⟨W0.heap.size,1,none⟩=some (.int .i64 p.2)∧w5.cell? ⟨W0.heap.size,2,none⟩=some (.int .i64 q.1)∧w5.cell? ⟨W0.heap.size,3,none⟩=some (.int .i64 q.2) from ⟨B8,B9,Ba,Bb,Bc⟩)
  refine cz 0 ?_ ?_ hH ?_
  rotate_left
  ·(intro w Be;(try dsimp only at Be);go_simp;try with_reducible rfl)
  try simp only[LY]
  refine cz 1 ?_ ?_ hH ?_
  rotate_left
  ·(intro w Be;(try dsimp only at Be);go_simp;try with_reducible rfl)
  try simp only[LY]
  refine cz 2 ?_ ?_ hH ?_
  rotate_left
  ·(intro w Be;(try dsimp only at Be);go_simp;try with_reducible rfl)
  try simp only[LY]
  refine cz 3 ?_ ?_ hH ?_
  rotate_left
  ·(intro w Be;(try dsimp only at Be);go_simp;try with_reducible rfl)
  try simp only[LY]
  refine cz 4 ?_ ?_ hH ?_
  rotate_left
  ·(intro w Be;(try dsimp only at Be);go_simp;try with_reducible rfl)
  try simp only[LY]
  clear hH
  refine U_on 5 fun K hK=>?_
  go_simp
  (with_reducible refine (pg p.1 p.2 q.1 q.2 _ (Wn.wmul Bp.1 Bq.2 (by decide)) (Wn.wmul Bp.2 Bq.1 (by decide)) (Wn.wsub (Wn.mul Bp.1 Bq.2) (Wn.mul Bp.2 Bq.1) (by decide))).mono ?_)
  rintro e w6 ⟨rfl,hb⟩
  replace hs:=ar hs hb
  revert B1 B2 B3;refine mo hb ?_;intro B1 B2 B3
  replace e1:=atB _ _ _ e1 hb
  replace hD:=atB _ _ _ hD hb
  replace B4:=kpJ _ _ _ B4 hb
  replace B8:=ah B8 hb
  replace B9:=ah B9 hb
  replace Ba:=ah Ba hb
  replace Bb:=ah Bb hb
  replace Bc:=ah Bc hb
  clear hb
  try gi_wp2_with fail
  refine hK.out _ _ ⟨B8,B9,Ba,Bb,Bc⟩ (fun hH=>?_)
  clear hK K
  try simp only[LY]
  refine cz 6 ?_ ?_ hH ?_
  rotate_left
  ·(intro w Be;(try dsimp only at Be);go_simp;try with_reducible rfl)
  try simp only[LY]
  clear hH
  refine B1.k1fl fun B8 fsum Bz=>?_
  refine dr (by kernel_rfl) rfl (by kernel_rfl) (fun K hK=>?_)
  go_simp
  refine hK.out _ _ ?_
  clear hK K
  intro w7 hW
  have hG:Gr [w.heap.size] w6 w7:=by rw[hW];exact (Gr.refl _ _).set
  have hsz:=hs.size
  have lsum:=B1.lt
  have Bs:Bx w7 (w.heap.size) 3 #[.int .i64 (twK l k + (p.1 * q.2 - p.2 * q.1))]:=by rw[hW];exact (Bx.set B1 0 _ rfl)
  replace hs:=hs.trans (hG.d1 hs.size)
  replace e1:=e1.gr hG (az (by have:=B4.1;omega))
  replace hD:=hD.gr hG (az (by have:=B4.1;omega))
  replace B4:=Kp.gr1 B4 hG (by have:=B4.1;omega)
  replace B2:=hG.b1 B2
  replace B3:=hG.b1 B3
  replace B1:=Bs
  clear Bs
  clear hW hG hsz lsum
  try simp only[LY]
  clear B8 B9 Ba Bb Bc
  gi_wp2
  repeat ((with_reducible refine And.intro ?_ ?_);exact trivial;gi_wp2)
  exact Bm.out .normal _ _ ⟨e1.h,hs,B2,B4,(show Bx _ _ _ #[.int .i64 (twK l (k + 1))] from by rw[show twK l (k + 1)=twK l k + (p.1 * q.2 - p.2 * q.1) from by rw[Hp.out,Hq.out];rfl];exact B1)⟩ hD.h
 case hend0=>
  clear hs B2 B1
  intro D Bo hDe hn0 Bf hs hI
  replace Bf:AtB D (.deferred (some [])) Bo:=⟨Bf⟩
  have B1:=hI
  clear hI
  refine B1.k1l fun B8 Bz=>?_
  go_wp2
  clear B8 Bz
  refine⟨by simp,.inl ⟨_,_,rfl,run_takeDeferred Bf.h,?_⟩⟩
  refine⟨_,results_tmp rfl _ _ _,rfl,hs.trans (belowK_b (ag _) _ D _ _ (by omega) Bf.h rfl rfl)⟩
 case hret0=>
  clear hs B2 B1
  intro c D W _ _ _ _ h
  exact h.elim
theorem edge_info:(Tryz.prog.info? 69).map (fun i=>(i.zero,i.size,i.bytes))=some (some (.agg #[.int .i64 0,.int .i64 0,.int .i64 0,.int .i64 0]),4,32):=by kernel_rfl
theorem slK_len (l:List Pt):∀k,(slK l k).length≤k
 | 0=>ag _
 | k + 1=>by
  have h:=slK_len l k
  unfold slK
  split
  ·omega
  rw[List.length_append,List.length_singleton];omega
theorem slK_yes {l:List Pt} {k:Nat} (h:¬ (ptZ l k).1=(nxZ l k).1):slK l (k + 1)=slK l k ++ [(ptZ l k,nxZ l k)]:=by
 exact if_neg h
theorem slK_no {l:List Pt} {k:Nat} (h:(ptZ l k).1=(nxZ l k).1):slK l (k + 1)=slK l k:=by
 exact if_pos h
theorem pl_sloped (v:Value) (l:List Pt) (w:World) (hl:Pts w v l) (hn:l.length≤1000) (hp:∀p∈l,WP 1048576 p):
  Calls Tryz.prog 97 #[v] w (Ret1 (fun w v=>Rows 4 69 IE w v (slE l)) w):=by
 obtain⟨ao,cap,rfl,hc1,hc2,hc3⟩:=hl.slice
 have hs:=Below.refl w.heap.size w
 have HL:=ae hl
 have HP:=ae hp
 have HN:=ae hn
 clear hl hp
 obtain⟨i0,hi,hz0,hz1,hz2⟩:=info_parts edge_info
 refine (callsIn_wide (n:=2)).1 (callsIn_of_wp_marks Tryz.func97 rfl trivial ?_)
 simp only[Tryz.ntmps97,List.size_toArray,List.length_cons,List.length_nil,Nat.reduceAdd,Nat.reduceSub,Array.replicate_succ,
   Array.replicate_zero,List.push_toArray,List.append_toArray,List.nil_append,List.cons_append]
 refine wpIn_wide.2 ?_
 go_wp2_with fail
 refine Calls.abs ?_
 intro w1 hW
 have hG:Gr [] w w1:=by rw[hW];exact (Gr.refl _ _).alloc
 have C6:=hs.size
 have B0:Bx w1 (w.heap.size) 129 #[.slice none 0 0]:=by rw[hW];exact (Bx.new0 _ _ _)
 replace hs:=hs.trans (hG.below0 hs.size)
 clear hW hG
 have C4:=B0.lt
 have C8:=B0.lt
 with_reducible refine (ph _ _ _ _).mono ?_
 rintro e w2 ⟨rfl,B2,hb⟩
 revert B0;refine mS hs hb ?_;clear hs hb;intro hs B0
 go_wp2_with fail
 have Ca:=B0.lt
 have By:=B2.lt
 have nw_out:=hs.size
 have nz_0:=hs.size
 refine edgesR (w1.heap.size) _ l w (fun k W=>(∃ov,Bx W (w.heap.size) 129 #[ov]∧cw w.heap.size 69 4 IE W ov (slK l k))) (fun c W=>False) rfl rfl HL.out (by omega) hs B2 (fun _=>(.own IE.kept _)) (fun c=>(.prop _ _)) ⟨_,B0,cw.nil _ _ _ _ _⟩ ?hbody0 ?hend0 ?hret0
 case hbody0=>
  clear hs B2 B0
  intro Bh Bk k W0 RR0 C2 C3 hk0 hn0 e1 hs B2 hI hD Bm
  replace Bm:=ae Bm
  replace e1:AtB Bk (.loop (Bh .ready none)) W0:=⟨e1⟩
  replace hD:AtB w2.heap.size (.deferred (some [])) W0:=⟨hD⟩
  obtain⟨ov,B0,B5⟩:=hI
  skip
  have B4:=Kp.refl (w2.heap.size + 2) W0
  obtain⟨p,Hp⟩:∃z:Pt,z=ptZ l k:=⟨_,rfl⟩
  obtain⟨q,Hq⟩:∃z:Pt,z=nxZ l k:=⟨_,rfl⟩
  rw[←Hp,←Hq]
  replace Hp:=ae Hp
  replace Hq:=ae Hq
  have Bp:WP 1048576 p:=by rw[Hp.out];exact WP.pt (by decide) HP.out _
  have Bq:WP 1048576 q:=by rw[Hq.out];exact WP.pt (by decide) HP.out _
  gi_wp2
  repeat ((with_reducible refine And.intro ?_ ?_);exact trivial;gi_wp2)
  generalize hW_:(W0.alloc (.cells #[.int .i64 p.1,.int .i64 p.2,.int .i64 q.1,.int .i64 q.2] 69))=w3
  have hW:=hW_.symm
  clear hW_
  have hG:Gr [] W0 w3:=by rw[hW];exact (Gr.refl _ _).alloc
  have C7:=hs.size
  have Cc:=B0.lt
  have C1:=B2.lt
  have B3:Bx w3 (W0.heap.size) 69 #[.int .i64 p.1,.int .i64 p.2,.int .i64 q.1,.int .i64 q.2]:=by rw[hW];exact (Bx.new0 _ _ _)
  have Bg:=B5.ap (g:=W0.heap.size) (by omega)
  replace hs:=hs.trans (hG.below0 hs.size)
  replace e1:=atB _ _ _ e1 (hG.below0 (ag _))
  replace hD:=atB _ _ _ hD (hG.below0 (ag _))
  replace B4:=kpJ _ _ _ B4 (hG.below0 (ag _))
  revert B2 B0;refine g0 hG ?_;intro B2 B0
  replace B5:=B5.mono IE.kept (hG.below0 (ag _))
  clear hW hG
  have C5:=B3.lt
  refine⟨e1.h,?_⟩
  obtain⟨w4,B6⟩:∃x,x=w3.putObj Bk (.loop (Bh .busy none)):=⟨_,rfl⟩
  rw[←B6]
  have hsl:=hs.size
  replace hs:Below w.heap.size w w4:=by rw[B6];exact hs.trans (belowK_b (ag _) _ Bk _ _ (by omega) e1.h rfl rfl)
  replace B0:Bx w4 (w.heap.size) 129 #[ov]:=by rw[B6];exact B0.putL e1.h
  replace B2:Bx w4 (w1.heap.size) 32 #[.slice ao l.length cap]:=by rw[B6];exact B2.putL e1.h
  replace B3:Bx w4 (W0.heap.size) 69 #[.int .i64 p.1,.int .i64 p.2,.int .i64 q.1,.int .i64 q.2]:=by rw[B6];exact B3.putL e1.h
  replace B5:cw w.heap.size 69 4 IE w4 ov (slK l k):=by rw[B6];exact B5.putL IE.kept e1.h
  replace hD:AtB w2.heap.size (.deferred (some [])) w4:=by rw[B6];exact⟨(World.putObj_heap_other (by omega)).trans hD.h⟩
  replace B4:Kp (w2.heap.size + 2) W0 w4:=by rw[B6];exact B4.putL (by have:=B4.1;omega) _
  replace e1:AtB Bk (.loop (Bh .busy none)) w4:=by rw[B6];exact⟨World.putObj_heap_same (Array.getElem?_eq_some_iff.1 e1.h).1⟩
  clear B6 hsl
  by_cases q2:p.1=q.1
  ·have q2b:(p.1 == q.1)=true:=beq_iff_eq.2 (by omega)
   have q2n:(p.1 != q.1)=false:=bne_eq_false_iff_eq.2 (by omega)
   have q2H:=ae q2
   clear q2
   refine B3.k4l fun B9 Ba Bb Bc Le=>?_
   gi_wp2
   repeat ((with_reducible refine And.intro ?_ ?_);exact trivial;gi_wp2)
   clear B9 Ba Bb Bc Le
   exact Bm.out .normal _ _ ⟨e1.h,hs,B2,B4,⟨_,B0,(by rw[slK_no (by rw[←Hp.out,←Hq.out];exact q2H.out)];exact B5)⟩⟩ hD.h
  have q2b:(p.1 == q.1)=false:=beq_eq_false_iff_ne.2 (by omega)
  have q2n:(p.1 != q.1)=true:=bne_iff_ne.2 (by omega)
  have q2H:=ae q2
  clear q2
  refine B3.k4l fun B9 Ba Bb Bc Le=>?_
  refine B0.k1l fun Bd Bn=>?_
  gi_wp2_with (gi_at_builtin;refine wpListIn.stop ?_)
  refine⟨?_⟩
  clear B9 Ba Bb Bc Bd Le Bn
  refine wpListIn.absI ?_
  intro w5 hW
  have hG:Gr [] w4 w5:=by rw[hW];exact (Gr.refl _ _).alloc
  have sz_w5:=hs.size
  have Cd:=B0.lt
  have nx1_w5:=B2.lt
  have ne_w5:=B3.lt
  have Bv:Bx w5 (w4.heap.size) 69 #[.int .i64 p.1,.int .i64 p.2,.int .i64 q.1,.int .i64 q.2]:=by rw[hW];exact (Bx.new0 _ _ _)
  replace hs:=hs.trans (hG.below0 hs.size)
  replace e1:=atB _ _ _ e1 (hG.below0 (ag _))
  replace hD:=atB _ _ _ hD (hG.below0 (ag _))
  replace B4:=kpJ _ _ _ B4 (hG.below0 (ag _))
  revert B0 B2 B3;refine g0 hG ?_;intro B0 B2 B3
  replace B5:=B5.mono IE.kept (hG.below0 (ag _))
  clear hW hG
  have hz_w5:=Bv.lt
  obtain⟨css,ho1,ho2,ho3,Bj⟩:=B5
  refine tv _ rfl _ _ _ rfl w.heap.size 69 i0 _ 4 32 Tryz.underlying129 hi hz0 hz1 hz2 rfl (by omega) _ _ css.flatten rfl Bj ⟨w4.heap.size,0,none⟩ 1 1 [.int .i64 p.1,.int .i64 p.2,.int .i64 q.1,.int .i64 q.2] rfl rfl Bv.news ?_ (by omega) ?_ ?_ ?_ _ rfl ?_
  ·intro u hu;simp only[List.mem_cons,List.mem_nil_iff,or_false] at hu;rcases hu with rfl|rfl|rfl|rfl<;>rfl
  ·unfold maxLen;(have:=slK_len l k;omega)
  ·(have:=slK_len l k;omega)
  ·exact hs.size
  intro C0 Bt w6 Bw Bi hat hlt_
  have hk_:=aw.owns Bj Bi (by decide)
  have ho:=iu Bj Bi
  replace hs:=hs.grown Bi hs.size (fun k hk=>(Bj.lt k hk).1)
  replace B5:=cw.push' IE.kept ho1 ho2 ho3 (x:=(p,q)) rfl rfl (by simp) Bw hk_
  replace B0:=B0.only ho (by decide)
  replace B2:=B2.only ho (by decide)
  have Bl:=Bg.app hat B3.lt
  replace B3:=B3.grown Bi Bg.ne
  replace Bg:=Bl
  clear Bl
  replace e1:=e1.onlyL ho (by decide) (by decide)
  replace hD:=hD.onlyD ho (by decide) (by decide)
  replace B4:=B4.only ho (by decide) (by decide)
  clear hk_ ho ho1 ho2 ho3 Bj Bw Bi hat hlt_ Bv
  refine B0.k1fl fun Bd fout Bn=>?_
  gi_wp2
  repeat ((with_reducible refine And.intro ?_ ?_);exact trivial;gi_wp2)
  clear Bd fout Bn
  generalize hW_:(w6.setCell ⟨w.heap.size,0,none⟩ (.slice (some ⟨C0,0,none⟩) ((slK l k).length + 1) Bt))=w7
  have hW:=hW_.symm
  clear hW_
  have hG:Gr [w.heap.size] w6 w7:=by rw[hW];exact (Gr.refl _ _).set
  have hsz:=hs.size
  have lout:=B0.lt
  have Bu:=B0.ty
  have Br:Bx w7 (w.heap.size) 129 #[.slice (some ⟨C0,0,none⟩) ((slK l k).length + 1) Bt]:=by rw[hW];exact (Bx.set B0 0 _ rfl)
  replace hs:=hs.trans (hG.d1 hs.size)
  replace e1:=e1.gr hG (az (by have:=B4.1;omega))
  replace hD:=hD.gr hG (az (by have:=B4.1;omega))
  replace B4:=Kp.gr1 B4 hG (by have:=B4.1;omega)
  replace B2:=hG.b1 B2
  replace B3:=hG.b1 B3
  replace B0:=Br
  clear Br
  have ho:dg 129 w6 w7:=hG.onlyT (by intro g hg;simp only[List.mem_cons,List.mem_nil_iff,or_false] at hg;rcases hg with rfl<;>first|exact Bu)
  replace B5:=B5.onlyT IE.kept ho (by decide) (by decide)
  clear ho
  clear hW hG hsz lout Bu
  exact Bm.out .normal _ _ ⟨e1.h,hs,B2,B4,⟨_,B0,(by rw[slK_yes (by rw[←Hp.out,←Hq.out];exact q2H.out),←Hp.out,←Hq.out];exact B5)⟩⟩ hD.h
 case hend0=>
  clear hs B2 B0
  intro D Bo hDe hn0 Bf hs hI
  replace Bf:AtB D (.deferred (some [])) Bo:=⟨Bf⟩
  obtain⟨ov,B0,B5⟩:=hI
  skip
  refine B0.k1l fun Bd Bn=>?_
  go_wp2
  clear Bd Bn
  refine⟨by simp,.inl ⟨_,_,rfl,run_takeDeferred Bf.h,?_⟩⟩
  refine⟨_,results_tmp rfl _ _ _,_,rfl,(B5.putD IE.kept Bf.h rfl).rows,hs.trans (belowK_b (ag _) _ D _ _ (by omega) Bf.h rfl rfl)⟩
 case hret0=>
  clear hs B2 B0
  intro c D W _ _ _ _ h
  exact h.elim
end Go.Proofs.YtidmjdmmpajooaaGreat
