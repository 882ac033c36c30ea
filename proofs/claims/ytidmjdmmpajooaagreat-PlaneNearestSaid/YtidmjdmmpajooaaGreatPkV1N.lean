/-
  How lists of natural numbers lie in memory: in the cells behind a slice ('Cells', 'Sl'), in a block of the call's own ('Blk'), as the canonical digits of a number ('NatV'). No program is in sight here.
-/
import Derived.Test.YtidmjdmmpajooaaGreatPkV0N
import Derived.WalkKit
import Derived.WalkSpells
import Derived.WalkLawsBesides
import Derived.Lib.Hide
import Derived.Laws.AppendOwnNone
import Derived.Deep.Draws
import Derived.Deep.AppendLies
set_option linter.unusedSimpArgs false
set_option linter.unusedVariables false
namespace Go.Proofs.YtidmjdmmpajooaaGreat
open Go.RowKit Dg
def U (k:IntKind) (l:List Nat):Array Value:=(l.map fun x:Nat=>Value.int k (x:Int)).toArray
theorem U_size (k:IntKind) (l:List Nat):(U k l).size=l.length:=by simp[U]
theorem U_get (k:IntKind) (l:List Nat) (j:Nat) (h:j < l.length):(U k l)[j]?=some (.int k ((l[j]?.getD 0:Nat):Int)):=by
 simp[U,List.getElem?_eq_getElem h]
theorem U_set (k:IntKind) (l:List Nat) (j x:Nat):(U k l).setIfInBounds j (.int k (x:Int))=U k (l.set j x):=by
 apply Array.ext'
 simp[U,List.map_set]
def pr (k:IntKind) (w:World) (ao:Option Addr) (l:List Nat):Prop:=
 ∀i,i < l.length→∃b o,ao=some ⟨b,o,none⟩∧∀j,j < l.length→w.cell? ⟨b,o + j,none⟩=some (.int k ((l[j]?.getD 0:Nat):Int))
theorem jw {w:World} {a:Addr} {v:Value} (h:w.cell? a=some v):a.block < w.heap.size:=by
 unfold World.cell? at h
 split at h
 ·rename_i c e f hb
  exact (Array.getElem?_eq_some_iff.1 hb).1
 ·cases h
theorem pr.nil (k:IntKind) (w:World) (ao:Option Addr):pr k w ao []:=fun i h=>by simp at h
theorem pr.mono {k:IntKind} {w w':World} {ao:Option Addr} {l:List Nat} (h:pr k w ao l) (hb:Below w.heap.size w w'):pr k w' ao l:=by
 intro i hi
 obtain⟨b,o,e,hc⟩:=h i hi
 refine⟨b,o,e,fun j hj=>?_⟩
 have:=hc j hj
 rw[hb.cell (p:=⟨b,o + j,none⟩) (jw this)]
 exact this
theorem pr.take {k:IntKind} {w:World} {ao:Option Addr} {l:List Nat} (h:pr k w ao l) (m:Nat):pr k w ao (l.take m):=by
 intro i hi
 rw[List.length_take] at hi
 obtain⟨b,o,e,hc⟩:=h i (by omega)
 refine⟨b,o,e,fun j hj=>?_⟩
 rw[List.length_take] at hj
 rw[hc j (by omega),List.getElem?_take_of_lt (by omega)]
theorem pr.store {k:IntKind} {w:World} {ao:Option Addr} {l:List Nat} (h:pr k w ao l) (g j:Nat) (v:Value) (hg:∀a,ao=some a→a.block≠g):pr k (w.setCell ⟨g,j,none⟩ v) ao l:=by
 intro i hi
 obtain⟨b,o,e,hc⟩:=h i hi
 refine⟨b,o,e,fun t ht=>?_⟩
 rw[World.cell?_setCell_other _ _ _ _ (by intro e';have:=hg _ e;simp only[Addr.mk.injEq] at e' this;omega)]
 exact hc t ht
def tyOf:IntKind→TypeId
 | .u64=>95
 | .u32=>152
 | _=>5
def qu (t:TypeId) (w:World) (ao:Option Addr) (n:Nat):Prop:=∀a,ao=some a→0 < n→∃cs fr,w.heap[a.block]?=some (.cells cs t fr)
theorem qu.mono {t:TypeId} {w w':World} {ao:Option Addr} {n:Nat} (h:qu t w ao n) (hb:Below w.heap.size w w'):qu t w' ao n:=fun a e hn=>by
 obtain⟨cs,fr,h1⟩:=h a e hn
 exact⟨cs,fr,(hb.block a.block (lt_of_block h1)).trans h1⟩
theorem qu.store {t:TypeId} {w:World} {ao:Option Addr} {n:Nat} (h:qu t w ao n) (p:Addr) (v:Value):qu t (w.setCell p v) ao n:=fun a e hn=>by
 obtain⟨cs,fr,h1⟩:=h a e hn
 by_cases hp:p.block=a.block
 ·refine⟨if p.spot.isSome=true then cs else cs.setIfInBounds p.off v,fr,?_⟩
  simp only[World.setCell,hp,Array.getElem?_modify,↓reduceIte,h1,Option.map_some]
 ·exact⟨cs,fr,(Below.heap_setCell w p v a.block (Ne.symm hp)).trans h1⟩
theorem qu.take {t:TypeId} {w:World} {ao:Option Addr} {n m:Nat} (h:qu t w ao n) (hm:m≤n):qu t w ao m:=fun a e h0=>h a e (by omega)
theorem qu.zero (t:TypeId) (w:World) (ao:Option Addr):qu t w ao 0:=fun a _ h=>by omega
structure Sl (k:IntKind) (w:World) (ao:Option Addr) (n c:Nat) (l:List Nat):Prop where
 len:l.length=n
 cap:n≤c
 max:c≤9223372036854775807
 cells:pr k w ao l
 nil:ao=none→c=0
 ty:qu (tyOf k) w ao n
theorem Sl.mono {k:IntKind} {w w':World} {ao:Option Addr} {n c:Nat} {l:List Nat} (h:Sl k w ao n c l) (hb:Below w.heap.size w w'):Sl k w' ao n c l:=
 ⟨h.len,h.cap,h.max,h.cells.mono hb,h.nil,h.ty.mono hb⟩
theorem Sl.at {k:IntKind} {w:World} {ao:Option Addr} {n c:Nat} {l:List Nat} (h:Sl k w ao n c l) {i:Nat} (hi:i < n):
  ∃b o,ao=some ⟨b,o,none⟩∧w.cell? ⟨b,o + i,none⟩=some (.int k ((l[i]?.getD 0:Nat):Int)):=by
 obtain⟨b,o,e,hc⟩:=h.cells i (by rw[h.len];exact hi)
 exact⟨b,o,e,hc i (by rw[h.len];exact hi)⟩
theorem Sl.all {k:IntKind} {w:World} {ao:Option Addr} {n c:Nat} {l:List Nat} (h:Sl k w ao n c l) (hn:0 < n):
  ∃b o,ao=some ⟨b,o,none⟩∧∀j,j < n→w.cell? ⟨b,o + j,none⟩=some (.int k ((l[j]?.getD 0:Nat):Int)):=by
 obtain⟨b,o,e,hc⟩:=h.cells 0 (by rw[h.len];exact hn)
 exact⟨b,o,e,fun j hj=>hc j (by rw[h.len];exact hj)⟩
theorem Sl.lt {k:IntKind} {w:World} {b o n c:Nat} {l:List Nat} (h:Sl k w (some ⟨b,o,none⟩) n c l) (hn:0 < n):b < w.heap.size:=by
 obtain⟨b',o',e,hc⟩:=h.at hn
 cases e
 exact jw hc
theorem Sl.take {k:IntKind} {w:World} {ao:Option Addr} {n c:Nat} {l:List Nat} (h:Sl k w ao n c l) (m:Nat) (hm:m≤n):Sl k w ao m c (l.take m):=
 ⟨by rw[List.length_take,h.len];omega,by have:=h.cap;omega,h.max,h.cells.take m,h.nil,h.ty.take hm⟩
theorem Sl.empty (k:IntKind) (w:World) (ao:Option Addr) (c:Nat) (hc:c≤9223372036854775807) (h0:ao=none→c=0):Sl k w ao 0 c []:=⟨rfl,Nat.zero_le _,hc,pr.nil _ _ _,h0,qu.zero _ _ _⟩
def ck (k:IntKind) (B:Nat) (w:World) (v:Value) (x:Nat):Prop:=
 ∃ao n c l,v=.slice ao n c∧Sl k w ao n c l∧bi B l∧val B l=x
theorem ck.mono {k:IntKind} {B:Nat} {w w':World} {v:Value} {x:Nat} (h:ck k B w v x) (hb:Below w.heap.size w w'):ck k B w' v x:=by
 obtain⟨ao,n,c,l,e,hs,hc,hv⟩:=h
 exact⟨ao,n,c,l,e,hs.mono hb,hc,hv⟩
def qk (g:Nat) (v:Value):Prop:=∀a n c,v=.slice (some a) n c→g≤a.block
def ry (g:Nat) (v:Value):Prop:=∀a n c,v=.slice (some a) n c→0 < n→a.block≠g
theorem qk.at (g o n c:Nat):qk g (.slice (some ⟨g,o,none⟩) n c):=fun a n c h=>by cases h;exact Nat.le_refl _
theorem qk.mono {g g':Nat} {v:Value} (h:qk g v) (hg:g'≤g):qk g' v:=fun a n c e=>Nat.le_trans hg (h a n c e)
theorem qk.away {g g':Nat} {v:Value} (h:qk g v) (hg:g' < g):ry g' v:=fun a n c e _=>by have:=h a n c e;omega
theorem Sl.away {k:IntKind} {w:World} {ao:Option Addr} {n c:Nat} {l:List Nat} (h:Sl k w ao n c l) (g:Nat) (hg:w.heap.size≤g):ry g (.slice ao n c):=by
 intro a n' c' e hn
 cases e
 obtain⟨b,o,e,hc⟩:=h.at hn
 cases e
 have:=jw hc
 exact fun e=>by simp only at e;simp only at this;omega
theorem Sl.store {k:IntKind} {w:World} {ao:Option Addr} {n c:Nat} {l:List Nat} (h:Sl k w ao n c l) {g:Nat} (ha:ry g (.slice ao n c)) (j:Nat) (u:Value):Sl k (w.setCell ⟨g,j,none⟩ u) ao n c l:=by
 cases n with
 | zero=>
  have:l=[]:=List.length_eq_zero_iff.1 h.len
  subst this
  exact⟨h.len,h.cap,h.max,pr.nil _ _ _,h.nil,qu.zero _ _ _⟩
 | succ n=>exact⟨h.len,h.cap,h.max,h.cells.store g j u (fun a e=>ha a _ _ (by rw[e]) (by omega)),h.nil,h.ty.store _ _⟩
theorem ck.store {k:IntKind} {B:Nat} {w:World} {v:Value} {x:Nat} (h:ck k B w v x) {g:Nat} (ha:ry g v) (j:Nat) (u:Value):ck k B (w.setCell ⟨g,j,none⟩ u) v x:=by
 obtain⟨ao,n,c,l,e,hs,hc,hv⟩:=h
 subst e
 exact⟨ao,n,c,l,rfl,hs.store ha j u,hc,hv⟩
def Blk (k:IntKind) (e:TypeId) (w:World) (g:Nat) (l:List Nat):Prop:=w.heap[g]?=some (.cells (U k l) e (0,0))
theorem Blk.lt {k:IntKind} {e:TypeId} {w:World} {g:Nat} {l:List Nat} (h:Blk k e w g l):g < w.heap.size:=lt_of_block h
theorem Blk.cell {k:IntKind} {e:TypeId} {w:World} {g:Nat} {l:List Nat} (h:Blk k e w g l) {j:Nat} (hj:j < l.length):
  w.cell? ⟨g,j,none⟩=some (.int k ((l[j]?.getD 0:Nat):Int)):=by
 unfold Blk at h
 simp only[World.cell?,h]
 simp[U_get k l j hj]
theorem Blk.free {k:IntKind} {e:TypeId} {w:World} {g:Nat} {l:List Nat} (h:Blk k e w g l) (j:Nat):w.frozen? ⟨g,j,none⟩=false:=by
 unfold Blk at h
 simp[World.frozen?,h]
theorem Blk.set {k:IntKind} {e:TypeId} {w:World} {g:Nat} {l:List Nat} (h:Blk k e w g l) (j x:Nat):Blk k e (w.setCell ⟨g,j,none⟩ (.int k (x:Int))) g (l.set j x):=by
 unfold Blk at h ⊢
 simp only[World.setCell,Array.getElem?_modify,↓reduceIte,h,Option.map_some]
 simp[U_set]
theorem Blk.sl {k:IntKind} {e:TypeId} {w:World} {g:Nat} {l:List Nat} (h:Blk k e w g l) (hm:l.length≤9223372036854775807) (he:e=tyOf k:=by rfl):Sl k w (some ⟨g,0,none⟩) l.length l.length l:=
 ⟨rfl,Nat.le_refl _,hm,fun i _=>⟨g,0,rfl,fun j hj=>by rw[Nat.zero_add];exact h.cell hj⟩,(fun e=>by cases e),(fun a e' _=>by cases e';exact⟨_,_,he ▸ h⟩)⟩
theorem Blk.below {k:IntKind} {e:TypeId} {w w':World} {g:Nat} {l:List Nat} (h:Blk k e w g l) (hb:Below w.heap.size w w'):Blk k e w' g l:=(hb.block g h.lt).trans h
theorem Blk.new (k:IntKind) (e:TypeId) (w:World) (l:List Nat):Blk k e (w.alloc (.cells (U k l) e)) w.heap.size l:=by
 show (w.heap.push _)[w.heap.size]?=_
 simp
theorem Blk.new' (k:IntKind) (e:TypeId) (w:World) (l:List Nat) (g:Nat) (hg:g=w.heap.size):Blk k e (w.alloc (.cells (U k l) e)) g l:=by subst hg;exact Blk.new k e w l
def nz (w:World) (g:Nat):Prop:=∀o k x,w.cell? ⟨g,o,none⟩≠some (.int k x)
theorem nz.below {w w':World} {g:Nat} (h:nz w g) (hg:g < w.heap.size) (hb:Below w.heap.size w w'):nz w' g:=fun o k x=>by
 rw[hb.cell (p:=⟨g,o,none⟩) hg];exact h o k x
theorem nz.new (w:World) (cs:Array Value) (t:TypeId) (h:∀(o:Nat) k x,cs[o]?≠some (.int k x)):nz (w.alloc (.cells cs t)) w.heap.size:=fun o k x=>by
 rw[World.cell?_alloc_at _ _ _ _ rfl];exact h o k x
theorem nz.set {w:World} {g:Nat} (h:nz w g) (j:Nat) (u:Value) (hu:∀k x,u≠.int k x):nz (w.setCell ⟨g,j,none⟩ u) g:=fun o k x e=>by
 by_cases ho:o=j
 ·subst ho
  cases hc:w.cell? ⟨g,o,none⟩ with
  | none=>
   unfold World.cell? at hc e
   simp only[World.setCell,Array.getElem?_modify,↓reduceIte] at e
   cases hb:w.heap[g]? with
   | none=>rw[hb] at e;simp at e
   | some ob=>
    rw[hb] at e hc
    cases ob<;>simp[Array.getElem?_setIfInBounds] at e hc
    omega
  | some v=>
   rw[World.cell?_setCell_same _ _ _ hc] at e
   exact hu k x (Option.some.inj e)
 ·rw[World.cell?_setCell_other _ _ _ _ (by intro e';simp only[Addr.mk.injEq] at e';omega)] at e
  exact h o k x e
theorem Sl.box {k:IntKind} {w:World} {ao:Option Addr} {n c:Nat} {l:List Nat} (h:Sl k w ao n c l) {g:Nat} (hg:nz w g) (j:Nat) (u:Value):Sl k (w.setCell ⟨g,j,none⟩ u) ao n c l:=by
 refine h.store (fun a n' c' e hn=>?_) j u
 cases e
 obtain⟨b,o,e,hc⟩:=h.at hn
 cases e
 intro e
 simp only at e
 subst e
 exact hg _ _ _ hc
theorem ck.box {k:IntKind} {B:Nat} {w:World} {v:Value} {x:Nat} (h:ck k B w v x) {g:Nat} (hg:nz w g) (j:Nat) (u:Value):ck k B (w.setCell ⟨g,j,none⟩ u) v x:=by
 obtain⟨ao,n,c,l,e,hs,hc,hv⟩:=h
 subst e
 exact⟨ao,n,c,l,rfl,hs.box hg j u,hc,hv⟩
def df (w:World) (g:Nat) (u0 u1 u2:Value):Prop:=∃t,w.heap[g]?=some (.cells #[u0,u1,u2] t (0,0))
theorem df.lt {w:World} {g:Nat} {u0 u1 u2:Value} (h:df w g u0 u1 u2):g < w.heap.size:=h.elim fun _ h=>lt_of_block h
theorem df.new (w:World) (u0 u1 u2:Value) (t:TypeId):df (w.alloc (.cells #[u0,u1,u2] t)) w.heap.size u0 u1 u2:=⟨t,by show (w.heap.push _)[w.heap.size]?=_;simp⟩
theorem df.new' (w:World) (u0 u1 u2:Value) (t:TypeId) (g:Nat) (hg:g=w.heap.size):df (w.alloc (.cells #[u0,u1,u2] t)) g u0 u1 u2:=by subst hg;exact df.new w _ _ _ t
theorem df.below {w w':World} {g:Nat} {u0 u1 u2:Value} (h:df w g u0 u1 u2) (hb:Below w.heap.size w w'):df w' g u0 u1 u2:=by
 have hl:=h.lt
 obtain⟨t,h⟩:=h
 exact⟨t,by rw[hb.block g hl];exact h⟩
theorem df.alloc {w:World} {g:Nat} {u0 u1 u2:Value} (h:df w g u0 u1 u2) (o:Obj):df (w.alloc o) g u0 u1 u2:=h.below ((Below.refl _ _).alloc (Nat.le_refl _) o)
theorem df.cells {w:World} {g:Nat} {u0 u1 u2:Value} (h:df w g u0 u1 u2):w.cell? ⟨g,0,none⟩=some u0∧w.cell? ⟨g,1,none⟩=some u1∧w.cell? ⟨g,2,none⟩=some u2:=by
 obtain⟨t,h⟩:=h
 simp[World.cell?,h]
theorem df.free {w:World} {g:Nat} {u0 u1 u2:Value} (h:df w g u0 u1 u2) (o:Nat):w.frozen? ⟨g,o,none⟩=false:=by
 obtain⟨t,h⟩:=h
 simp[World.frozen?,h]
theorem df.set {w:World} {g:Nat} {u0 u1 u2:Value} (h:df w g u0 u1 u2) (v0 v1 v2:Value):df (((w.setCell ⟨g,0,none⟩ v0).setCell ⟨g,1,none⟩ v1).setCell ⟨g,2,none⟩ v2) g v0 v1 v2:=by
 obtain⟨t,h⟩:=h
 refine⟨t,?_⟩
 simp[World.setCell,Array.getElem?_modify,h]
theorem ul {fn:Func} {p:Tmp} {ty:TypeId} (h:fn.results=#[.cell p ty]) (tmps:Array Value) (P:Program) (w:World):
  (results fn tmps).run P w=((asAddr (tmps.getD p undef)).run P w).andThen fun a w₁=>(loadVar ty a).run P w₁:=by
 simp only[results,h]
 simp[Sem.run_bind,Result.andThen]
theorem madeCells_u (k:IntKind) (n:Nat):madeCells (Value.int k 0).cells (n * 1)=U k (List.replicate n 0):=by
 apply Array.ext'
 have:=toList_madeCells_one (.int k 0) (n * 1)
 simp only[Nat.mul_one] at this
 simp[Value.cells,U,this]
section
variable {P:Program} (w:World)
theorem co {ops:Array Oper} {rest:List Oper} {o:Oper} {a:Act} {Q:Exit→Act→World→Prop}
  (hg:o.guard=none) (l c:Operand) (t:TypeId) (hop:o.op=Op.makeSlice t l c)
  (e:TypeId) (i:TypeInfo) (k:IntKind) (h1:P.underlying t=some (.slice e)) (h2:P.info? e=some i) (h3:i.zero=some (.int k 0)) (h4:i.size=1)
  (kl kc:IntKind) (L C:Int) (n m:Nat) (hl:a.eval l=.int kl L) (hc:a.eval c=.int kc C) (hL:L=(n:Int)) (hC:C=(m:Int)) (hnm:n≤m) (b2:i.bytes * m≤281474976710656) (b3:m≤9223372036854775807)
  (hK:wpList P ops Q rest (a.put o.dst (.slice (some ⟨w.heap.size,0,none⟩) n m)) (w.alloc (.cells (U k (List.replicate m 0)) e))):
  wpList P ops Q (o ::rest) a w:=by
 refine wpList_plain hg fun K hK'=>?_
 subst hL
 subst hC
 have hb':(i.bytes:Int) * (m:Int)≤281474976710656:=by
  have h:((i.bytes * m:Nat):Int)≤281474976710656:=by omega
  rwa [Int.natCast_mul] at h
 have hr:=run_make (P:=P) w t e i _ h1 h2 h3 kl kc n m (by omega) (by omega) hb' (by omega)
 simp only[Int.toNat_natCast,h4,madeCells_u] at hr
 unfold Oper.wp
 simp[execOp,hop,hl,hc,hr,Result.andThen]
 exact hK' _ _ hK
end
theorem Blk.owns {k:IntKind} {e:TypeId} {w:World} {g:Nat} {l:List Nat} (h:Blk k e w g l) (hm:l.length≤9223372036854775807):
  w.ownsRow g e 1 (.slice (some ⟨g,0,none⟩) l.length l.length) l.length (l.map fun x:Nat=>Value.int k (x:Int)):=
 ⟨by simp,.inr ⟨g,l.length,U k l,rfl,Nat.le_refl _,h,Nat.le_refl _,by simpa [maxLen] using hm,by simp[U_size],by simp[U,List.take_of_length_le]⟩⟩
theorem Sl.of_owns {k:IntKind} {e:TypeId} {w:World} {base:Nat} {v:Value} {n:Nat} {l:List Nat} (h:w.ownsRow base e 1 v n (l.map fun x:Nat=>Value.int k (x:Int))) (hv:v≠.slice none 0 0∨n=0) (he:e=tyOf k:=by rfl):
  ∃ao c,v=.slice ao n c∧Sl k w ao n c l:=by
 have hl:=h.1
 rw[List.length_map,Nat.mul_one] at hl
 rcases h.2 with ⟨rfl,rfl⟩|⟨g,cap,cur,rfl,_,hh,hn,hcap,_,_⟩
 ·exact⟨none,0,rfl,hl,Nat.le_refl _,by omega,(fun i hi=>by omega),fun _=>rfl,qu.zero _ _ _⟩
 ·refine⟨_,_,rfl,hl,hn,by simpa [maxLen] using hcap,(fun i _=>⟨g,0,rfl,fun j hj=>?_⟩),(fun e=>by cases e),(fun a e' _=>by cases e';exact⟨_,_,he ▸ hh⟩)⟩
  rw[Nat.zero_add,h.cellAt j (by omega)]
  simp[List.getElem?_eq_getElem hj]
theorem og {w w':World} {B:Nat} (hg:w.grownBy w' (some B)) {w0:World} (h:Below B w0 w) (hB:B≤w.heap.size):Below B w0 w':=h.grown hg hB (fun k hk=>by cases hk;exact Nat.le_refl _)
theorem iy (b o j:Nat):(⟨b,o,none⟩:Addr).add j=⟨b,o + j,none⟩:=by
 unfold Addr.add
 split<;>simp_all
theorem Sl.news {k:IntKind} {w w':World} {b o n c:Nat} {l:List Nat} (h:Sl k w (some ⟨b,o,none⟩) n c l) (hb:Below w.heap.size w w'):
  ∀j u,(l.map fun x:Nat=>Value.int k (x:Int))[j]?=some u→w'.cell? ((⟨b,o,none⟩:Addr).add j)=some u:=by
 intro j u hu
 by_cases hj:j < n
 ·obtain⟨b',o',e,hc⟩:=(h.mono hb).at hj
  cases e
  rw[iy,hc]
  rw[List.getElem?_map,List.getElem?_eq_getElem (by rw[h.len];exact hj)] at hu
  simp only[Option.map_some] at hu
  rw[List.getElem?_eq_getElem (by rw[h.len];exact hj)]
  exact hu
 ·rw[List.getElem?_eq_none (by rw[List.length_map,h.len];omega)] at hu
  cases hu
theorem Sl.news' {k:IntKind} {w w':World} {ad:Addr} {n c:Nat} {l:List Nat} (h:Sl k w (some ad) n c l) (hb:Below w.heap.size w w'):
  ∀j u,(l.map fun x:Nat=>Value.int k (x:Int))[j]?=some u→w'.cell? (ad.add j)=some u:=by
 cases n with
 | zero=>
  have:l=[]:=List.length_eq_zero_iff.1 h.len
  subst this
  intro j u hu
  simp at hu
 | succ n=>
  obtain⟨b,o,e,_⟩:=h.at (i:=0) (by omega)
  cases e
  exact h.news hb
theorem zh (k:IntKind) (l:List Nat):∀u∈l.map (fun x:Nat=>Value.int k (x:Int)),u.oneCell'=true:=by
 intro u hu
 obtain⟨x,_,rfl⟩:=List.mem_map.1 hu
 rfl
theorem Blk.drewN {k:IntKind} {e:TypeId} {w:World} {g:Nat} {l:List Nat} (h:Blk k e w g l) (q:Nat):Blk k e (w.drewN q) g l:=h
theorem it {B:Nat} {a w:World} (h:Below B a w) (n:Nat):Below B a (w.drewN n):=h.trans ⟨rfl,rfl,rfl,Nat.le_refl _,fun _ _=>rfl⟩
end Go.Proofs.YtidmjdmmpajooaaGreat
namespace Go.Proofs.YtidmjdmmpajooaaGreat.Dg
theorem jc6 (B:Nat) (l l' ol:List Nat) (k borrow:Nat) (hk:k < ol.length) (h:val B (ol.take k) + val B (l'.take k)=val B (l.take k) + borrow * B ^ k)
  (x y nb:Nat) (hx:x + (borrow + l'[k]?.getD 0)=l[k]?.getD 0 + nb * B) (hy:y=x):
  val B ((ol.set k y).take (k + 1)) + val B (l'.take (k + 1))=val B (l.take (k + 1)) + nb * B ^ (k + 1):=by
 subst hy
 rw[gh _ _ _ _ hk,dj,dj]
 generalize l[k]?.getD 0=a at *
 generalize l'[k]?.getD 0=b at *
 rw[Nat.pow_succ]
 have:B ^ k * (y + (borrow + b))=B ^ k * (a + nb * B):=by rw[hx]
 grind
theorem dif_end {B:Nat} {l l' ol:List Nat} {borrow:Nat} (hB:1 < B) (hol:cj B ol) (h0:ol.length=l.length) (h1:l'.length≤l.length) (hle:val B l'≤val B l)
  (h:val B (ol.take ol.length) + val B (l'.take ol.length)=val B (l.take ol.length) + borrow * B ^ ol.length):val B ol=val B l - val B l':=by
 rw[bg _ _ _ (Nat.le_refl _),bg _ _ _ (by omega),bg _ _ _ (by omega)] at h
 have a1:=gp (by omega) hol
 have:borrow=0:=by
  rcases Nat.eq_zero_or_pos borrow with h0|h0
  ·exact h0
  ·have:1 * B ^ ol.length≤borrow * B ^ ol.length:=Nat.mul_le_mul_right _ h0
   omega
 subst this
 omega
theorem ju (B:Nat) (l:List Nat) (k:Nat) (h:k < l.length):val B (l.drop k)=l[k]?.getD 0 + B * val B (l.drop (k + 1)):=by
 rw[List.drop_eq_getElem_cons h,val,List.getElem?_eq_getElem h];rfl
theorem yz {l:List Nat} {i k x:Nat} (h:i < k):(l.set i x).drop k=l.drop k:=by
 apply List.ext_getElem?;intro j
 rw[List.getElem?_drop,List.getElem?_drop,List.getElem?_set_ne (by omega)]
theorem xr (B:Nat) (l:List Nat) (k x:Nat) (h:k < l.length):val B ((l.set k x).drop k)=x + B * val B (l.drop (k + 1)):=by
 rw[ju _ _ _ (by simpa using h),na _ _ _ _ h,if_pos rfl,yz (by omega)]
theorem div_step (B d:Nat) (l ol:List Nat) (k rest:Nat) (hk:k < l.length) (hko:k < ol.length) (h:val B (l.drop (k + 1))=val B (ol.drop (k + 1)) * d + rest):
  val B (l.drop k)=val B ((ol.set k ((rest * B + l[k]?.getD 0) / d)).drop k) * d + (rest * B + l[k]?.getD 0) % d:=by
 rw[ju _ _ _ hk,xr _ _ _ _ hko,h]
 generalize l[k]?.getD 0=a
 have:=Nat.div_add_mod (rest * B + a) d
 generalize (rest * B + a) / d=q at *
 generalize (rest * B + a) % d=r at *
 grind
theorem xx {B d rest a:Nat} (hr:rest < d) (ha:a < B):(rest * B + a) / d < B:=by
 rw[Nat.div_lt_iff_lt_mul (by omega)]
 have:(rest + 1) * B≤d * B:=Nat.mul_le_mul_right _ hr
 rw[Nat.add_mul,Nat.one_mul] at this
 rw[Nat.mul_comm B d]
 omega
def bl (n:Nat):Nat:=if n=0 then 0 else Nat.log2 n + 1
theorem bl_zero:bl 0=0:=rfl
theorem jg (n:Nat):n < 2 ^ bl n:=by
 unfold bl
 split
 ·omega
 ·exact Nat.lt_log2_self
theorem iw {n:Nat} (h:0 < n):2 ^ bl n≤2 * n:=by
 unfold bl
 rw[if_neg (by omega),Nat.pow_succ,Nat.mul_comm]
 have:=Nat.log2_self_le (n:=n) (by omega)
 omega
theorem bl_pos {n:Nat} (h:0 < n):0 < bl n:=by unfold bl;rw[if_neg (by omega)];omega
theorem bl_eq_of {n k:Nat} (h1:n < 2 ^ k) (h2:2 ^ k≤2 * n):bl n=k:=by
 have a1:=jg n
 have a2:2 ^ bl n≤2 * n:=by
  rcases Nat.eq_zero_or_pos n with h|h
  ·subst h;have:=Nat.pow_pos (n:=k) (show 0 < 2 from by omega);omega
  ·exact iw h
 have b1:2 ^ k < 2 ^ (bl n + 1):=by rw[Nat.pow_succ];omega
 have b2:2 ^ bl n < 2 ^ (k + 1):=by rw[Nat.pow_succ];omega
 have c1:=(Nat.pow_lt_pow_iff_right (by omega:1 < 2)).1 b1
 have c2:=(Nat.pow_lt_pow_iff_right (by omega:1 < 2)).1 b2
 omega
theorem bl_half {n:Nat} (h:0 < n):bl n=bl (n / 2) + 1:=by
 apply bl_eq_of
 ·have:=jg (n / 2)
  rw[Nat.pow_succ];omega
 ·rcases Nat.eq_zero_or_pos (n / 2) with h'|h'
  ·rw[h',bl_zero];omega
  ·have:=iw h'
   rw[Nat.pow_succ];omega
theorem bl_mono {m n:Nat} (h:m≤n):bl m≤bl n:=by
 rcases Nat.eq_zero_or_pos m with h'|h'
 ·subst h';exact Nat.zero_le _
 ·have a1:=iw h'
  have a2:=jg n
  have:2 ^ bl m < 2 ^ (bl n + 1):=by rw[Nat.pow_succ];omega
  have:=(Nat.pow_lt_pow_iff_right (by omega:1 < 2)).1 this
  omega
theorem jy {n k:Nat} (h:n < 2 ^ k):bl n≤k:=by
 rcases Nat.eq_zero_or_pos n with h'|h'
 ·subst h';exact Nat.zero_le _
 ·have a1:=iw h'
  have:2 ^ bl n < 2 ^ (k + 1):=by rw[Nat.pow_succ];omega
  have:=(Nat.pow_lt_pow_iff_right (by omega:1 < 2)).1 this
  omega
theorem mul_step (B:Nat) (l' ol:List Nat) (i k a carry V x:Nat) (hk:i + k < ol.length)
  (h:val B ol + carry * B ^ (i + k)=V + a * val B (l'.take k) * B ^ i) (hx:ol[i + k]?.getD 0 + carry + a * l'[k]?.getD 0=x):
  val B (ol.set (i + k) (x % B)) + x / B * B ^ (i + (k + 1))=V + a * val B (l'.take (k + 1)) * B ^ i:=by
 have h1:=ui B ol (i + k) (x % B) hk
 rw[dj]
 have h2:=Nat.div_add_mod x B
 generalize val B (ol.set (i + k) (x % B))=V1 at *
 generalize ol[i + k]?.getD 0=o at *
 generalize l'[k]?.getD 0=b at *
 generalize x / B=q at *
 generalize x % B=r at *
 rw[show i + (k + 1)=(i + k) + 1 from rfl,Nat.pow_succ]
 rw[Nat.pow_add] at *
 generalize B ^ i=P at *
 generalize B ^ k=Q at *
 subst hx
 grind
theorem nf {q b a A:Nat} (h1:q * b + a=A) (h2:a < b):q=A / b∧a=A % b:=by
 subst h1
 have hb:0 < b:=by omega
 rw[Nat.mul_comm q b]
 constructor
 ·rw[Nat.mul_add_div hb,Nat.div_eq_of_lt h2,Nat.add_zero]
 ·rw[Nat.mul_add_mod,Nat.mod_eq_of_lt h2]
end Go.Proofs.YtidmjdmmpajooaaGreat.Dg
namespace Go.Proofs.YtidmjdmmpajooaaGreat.Dg
def dgs (n:Nat):List UInt8:=if h:n=0 then [] else dgs (n / 10) ++ [UInt8.ofNat (48 + n % 10)]
termination_by n
decreasing_by omega
def pad:Nat→Nat→List UInt8
 | 0,_=>[]
 | k + 1,n=>pad k (n / 10) ++ [UInt8.ofNat (48 + n % 10)]
def dw (n:Nat):List UInt8:=if n=0 then [48] else dgs n
theorem gj:dgs 0=[]:=by rw[dgs];simp
theorem jc {n:Nat} (h:n≠0):dgs n=dgs (n / 10) ++ [UInt8.ofNat (48 + n % 10)]:=by rw[dgs];simp[h]
theorem jc5 (k:Nat):∀{q r:Nat},0 < q→r < 10 ^ k→dgs (q * 10 ^ k + r)=dgs q ++ pad k r:=by
 induction k with
 | zero=>intro q r _ hr;simp at hr;subst hr;simp[pad]
 | succ k ih=>
  intro q r hq hr
  have hpos:=Nat.pow_pos (n:=k) (show 0 < 10 by omega)
  have e:q * 10 ^ (k + 1)=q * 10 ^ k * 10:=by rw[Nat.pow_succ,Nat.mul_assoc]
  have h1:0 < q * 10 ^ k:=Nat.mul_pos hq hpos
  rw[jc (by omega),e]
  rw[show (q * 10 ^ k * 10 + r) / 10=q * 10 ^ k + r / 10 from by omega,show (q * 10 ^ k * 10 + r) % 10=r % 10 from by omega]
  rw[ih hq (by rw[Nat.pow_succ] at hr;omega),pad,List.append_assoc]
theorem dgs_small (k:Nat):∀{r:Nat},dgs r=dgs (r / 10 ^ k) ++ pad k (r % 10 ^ k)∨r < 10 ^ k:=by
 intro r
 by_cases h:r < 10 ^ k
 ·exact .inr h
 ·left
  have hpos:=Nat.pow_pos (n:=k) (show 0 < 10 by omega)
  have:=jc5 k (q:=r / 10 ^ k) (r:=r % 10 ^ k) (Nat.div_pos (by omega) hpos) (Nat.mod_lt _ hpos)
  rw[←this,Nat.mul_comm,Nat.div_add_mod]
theorem pad_mod (k:Nat):∀n,pad k (n % 10 ^ k)=pad k n:=by
 induction k with
 | zero=>intro n;rfl
 | succ k ih=>
  intro n
  rw[pad,pad]
  rw[show n % 10 ^ (k + 1) % 10=n % 10 from by rw[Nat.pow_succ,Nat.mul_comm,Nat.mod_mul_right_mod]]
  rw[show n % 10 ^ (k + 1) / 10=n / 10 % 10 ^ k from by rw[Nat.pow_succ,Nat.mul_comm,Nat.mod_mul_right_div_self]]
  rw[ih]
theorem dgs_split (k:Nat) {r:Nat} (h:0 < r / 10 ^ k):dgs r=dgs (r / 10 ^ k) ++ pad k r:=by
 rcases dgs_small k (r:=r) with h'|h'
 ·rw[h',pad_mod]
 ·rw[Nat.div_eq_of_lt h'] at h;omega
theorem qw:∀n,(dgs n).length≤bl n:=by
 intro n
 induction n using Nat.strongRecOn with
 | _ n ih=>
  by_cases h:n=0
  ·subst h;rw[gj];exact Nat.zero_le _
  ·rw[jc h,List.length_append,List.length_singleton,bl_half (by omega)]
   have h1:=ih (n / 10) (by omega)
   have h2:=bl_mono (show n / 10≤n / 2 by omega)
   omega
theorem ja (a b:List UInt8):(ByteArray.mk a.toArray) ++ (ByteArray.mk b.toArray)=⟨(a ++ b).toArray⟩:=by
 apply ByteArray.ext
 simp
end Go.Proofs.YtidmjdmmpajooaaGreat.Dg
namespace Go.Proofs.YtidmjdmmpajooaaGreat
open Go.RowKit Dg
def SzQ (K:Nat) (q:Rat):Prop:=q.num.natAbs < 4294967296 ^ K∧q.den < 4294967296 ^ K
theorem SzQ.mono {K L:Nat} {q:Rat} (h:SzQ K q) (hl:K≤L):SzQ L q:=
 ⟨Nat.lt_of_lt_of_le h.1 (Nat.pow_le_pow_right (by omega) hl),Nat.lt_of_lt_of_le h.2 (Nat.pow_le_pow_right (by omega) hl)⟩
def ng (q:Rat):Bool:=decide (q.num < 0)
def RV (w:World) (v:Value) (q:Rat):Prop:=
 ∃vn vd d,v=.agg #[.bool (ng q),vn,vd]∧ck .u32 4294967296 w vn q.num.natAbs∧ck .u32 4294967296 w vd d∧(d=q.den∨d=0∧q.den=1)
theorem RV.mono {w w':World} {v:Value} {q:Rat} (h:RV w v q) (hb:Below w.heap.size w w'):RV w' v q:=by
 obtain⟨vn,vd,d,e,hn,hd,hc⟩:=h
 exact⟨vn,vd,d,e,hn.mono hb,hd.mono hb,hc⟩
def mkQ (neg:Bool) (n d:Nat):Rat:=mkRat (if neg then -(n:Int) else n) d
theorem mkQ_zero (neg:Bool) (d:Nat):mkQ neg 0 d=0:=by unfold mkQ;cases neg<;>simp
theorem uu (neg:Bool) (n:Nat):(if neg then -(n:Int) else n).natAbs=n:=by cases neg<;>simp
theorem mkQ_num (neg:Bool) (n d:Nat) (hd:d≠0):(mkQ neg n d).num=if neg then -((n / Nat.gcd n d:Nat):Int) else ((n / Nat.gcd n d:Nat):Int):=by
 unfold mkQ
 rw[Rat.num_mkRat,if_neg hd,uu,Nat.gcd_comm d n]
 have hg:Nat.gcd n d ∣ n:=Nat.gcd_dvd_left n d
 cases neg
 ·simp
 ·simp only[if_true]
  rw[Int.neg_ediv_of_dvd (Int.natCast_dvd_natCast.2 hg)]
  simp
theorem ut (neg:Bool) (n d:Nat) (hd:d≠0):(mkQ neg n d).num.natAbs=n / Nat.gcd n d:=by
 rw[mkQ_num _ _ _ hd,uu]
theorem mkQ_den (neg:Bool) (n d:Nat) (hd:d≠0):(mkQ neg n d).den=d / Nat.gcd n d:=by
 unfold mkQ
 rw[Rat.den_mkRat,if_neg hd,uu,Nat.gcd_comm d n]
theorem mkQ_ng (neg:Bool) (n d:Nat) (hd:d≠0) (hn:n≠0):ng (mkQ neg n d)=neg:=by
 unfold ng
 rw[mkQ_num _ _ _ hd]
 have:0 < n / Nat.gcd n d:=Nat.div_pos (Nat.le_of_dvd (by omega) (Nat.gcd_dvd_left n d)) (Nat.gcd_pos_of_pos_left _ (by omega))
 generalize n / Nat.gcd n d=z at *
 cases neg
 ·simp only[Bool.false_eq_true,if_false,decide_eq_false_iff_not];omega
 ·simp only[if_true,decide_eq_true_eq];omega
theorem td (neg:Bool) (n d:Nat) (hd:d≠0) (K:Nat) (h1:n < 4294967296 ^ K) (h2:d < 4294967296 ^ K):SzQ K (mkQ neg n d):=by
 refine⟨?_,?_⟩
 ·rw[ut _ _ _ hd];exact Nat.lt_of_le_of_lt (Nat.div_le_self _ _) h1
 ·rw[mkQ_den _ _ _ hd];exact Nat.lt_of_le_of_lt (Nat.div_le_self _ _) h2
theorem qi (q:Rat):q.num=if ng q then -(q.num.natAbs:Int) else q.num.natAbs:=by
 unfold ng
 by_cases h:q.num < 0
 ·simp only[h,decide_true,if_true];omega
 ·simp only[h,decide_false];simp;omega
theorem jb6 (x y:Rat) (h:ng x=ng y):x + y=mkQ (ng x) (x.num.natAbs * y.den + y.num.natAbs * x.den) (x.den * y.den):=by
 rw[Rat.add_def']
 unfold mkQ
 congr 1
 have h1:=qi x
 have h2:=qi y
 rw[←h] at h2
 cases hx:ng x<;>rw[hx] at h1 h2<;>simp only[if_true,if_false,Bool.false_eq_true] at h1 h2 ⊢<;>rw[h1,h2]<;>simp<;>grind
theorem uz (x y:Rat) (h:ng x≠ng y) (hle:y.num.natAbs * x.den≤x.num.natAbs * y.den):x + y=mkQ (ng x) (x.num.natAbs * y.den - y.num.natAbs * x.den) (x.den * y.den):=by
 rw[Rat.add_def']
 unfold mkQ
 congr 1
 have h1:=qi x
 have h2:=qi y
 have h3:((x.num.natAbs * y.den - y.num.natAbs * x.den:Nat):Int)=x.num.natAbs * y.den - y.num.natAbs * x.den:=by
  rw[Int.ofNat_sub hle];simp
 rw[h3]
 cases hx:ng x<;>cases hy:ng y<;>rw[hx,hy] at h<;>simp at h<;>rw[hx] at h1<;>rw[hy] at h2<;>simp only[if_true,if_false,Bool.false_eq_true] at h1 h2 ⊢<;>rw[h1,h2]<;>simp<;>grind
theorem xu (x y:Rat) (h:ng x≠ng y) (hle:x.num.natAbs * y.den≤y.num.natAbs * x.den):x + y=mkQ (ng y) (y.num.natAbs * x.den - x.num.natAbs * y.den) (x.den * y.den):=by
 rw[Rat.add_comm,uz y x (Ne.symm h) hle,Nat.mul_comm y.den]
theorem mul_mk (x y:Rat):x * y=mkQ (ng x != ng y) (x.num.natAbs * y.num.natAbs) (x.den * y.den):=by
 rw[Rat.mul_def']
 unfold mkQ
 congr 1
 have h1:=qi x
 have h2:=qi y
 cases hx:ng x<;>cases hy:ng y<;>rw[hx] at h1<;>rw[hy] at h2<;>simp only[if_true,if_false,Bool.false_eq_true,bne_self_eq_false,Bool.true_bne,Bool.false_bne,Bool.not_true,Bool.not_false] at h1 h2 ⊢<;>rw[h1,h2]<;>simp<;>grind
theorem div_mk (x y:Rat) (hy0:y≠0):x / y=mkQ (ng x != ng y) (x.num.natAbs * y.den) (x.den * y.num.natAbs):=by
 have hn:y.num≠0:=fun h=>hy0 (Rat.num_eq_zero.1 h)
 rw[Rat.div_def,Rat.mul_def',Rat.num_inv,Rat.den_inv,if_neg hn]
 unfold mkQ
 congr 1
 have h1:=qi x
 have h2:=qi y
 have h3:ng y=true→y.num.sign= -1:=fun h=>Int.sign_eq_neg_one_of_neg (by unfold ng at h;simpa using h)
 have h4:ng y=false→y.num.sign=1:=fun h=>Int.sign_eq_one_of_pos (by unfold ng at h;have:=decide_eq_false_iff_not.1 h;omega)
 cases hx:ng x<;>cases hy:ng y<;>simp only[hx,hy,if_true,if_false,Bool.false_eq_true,bne_self_eq_false,Bool.true_bne,Bool.false_bne,Bool.not_true,Bool.not_false] at h1 h2 ⊢<;>(first|rw[h3 hy]|rw[h4 hy])<;>rw[h1]<;>simp<;>grind
theorem ng_neg (q:Rat):ng (-q)=(!ng q && decide (q≠0)):=by
 unfold ng
 rw[Rat.neg_num]
 have h0:q≠0↔q.num≠0:=not_congr Rat.num_eq_zero.symm
 rw[Bool.eq_iff_iff]
 simp only[decide_eq_true_eq,Bool.and_eq_true,Bool.not_eq_true',decide_eq_false_iff_not,h0]
 omega
theorem jd (q:Rat):q.num.natAbs=0↔q=0:=by
 rw[Int.natAbs_eq_zero,Rat.num_eq_zero]
theorem SzQ.add {K L:Nat} {x y:Rat} (hx:SzQ K x) (hy:SzQ L y):SzQ (K + L + 1) (x + y):=by
 have hd:x.den * y.den≠0:=Nat.mul_ne_zero x.den_nz y.den_nz
 have h1:x.num.natAbs * y.den≤4294967296 ^ K * 4294967296 ^ L:=Nat.mul_le_mul (Nat.le_of_lt hx.1) (Nat.le_of_lt hy.2)
 have h2:y.num.natAbs * x.den≤4294967296 ^ L * 4294967296 ^ K:=Nat.mul_le_mul (Nat.le_of_lt hy.1) (Nat.le_of_lt hx.2)
 have h3:x.den * y.den≤4294967296 ^ K * 4294967296 ^ L:=Nat.mul_le_mul (Nat.le_of_lt hx.2) (Nat.le_of_lt hy.2)
 have h4:0 < 4294967296 ^ K * 4294967296 ^ L:=Nat.mul_pos (Nat.pow_pos (by omega)) (Nat.pow_pos (by omega))
 rw[Nat.mul_comm (4294967296 ^ L)] at h2
 have e:4294967296 ^ (K + L + 1)=4294967296 ^ K * 4294967296 ^ L * 4294967296:=by rw[Nat.pow_succ,Nat.pow_add]
 generalize 4294967296 ^ K * 4294967296 ^ L=P at *
 by_cases h:ng x=ng y
 ·rw[jb6 x y h]
  exact td _ _ _ hd _ (by omega) (by omega)
 ·by_cases hle:y.num.natAbs * x.den≤x.num.natAbs * y.den
  ·rw[uz x y h hle]
   exact td _ _ _ hd _ (by omega) (by omega)
  ·rw[xu x y h (by omega)]
   exact td _ _ _ hd _ (by omega) (by omega)
theorem ig {K L a b:Nat} (ha:a < 4294967296 ^ K) (hb:b < 4294967296 ^ L):a * b < 4294967296 ^ (K + L):=by
 rw[Nat.pow_add]
 rcases Nat.eq_zero_or_pos b with h|h
 ·subst h;exact Nat.mul_pos (Nat.pow_pos (by omega)) (Nat.pow_pos (by omega))
 ·exact Nat.lt_of_lt_of_le (Nat.mul_lt_mul_of_pos_right ha h) (Nat.mul_le_mul_left _ (Nat.le_of_lt hb))
theorem SzQ.mul {K L:Nat} {x y:Rat} (hx:SzQ K x) (hy:SzQ L y):SzQ (K + L) (x * y):=by
 rw[mul_mk]
 exact td _ _ _ (Nat.mul_ne_zero x.den_nz y.den_nz) _ (ig hx.1 hy.1) (ig hx.2 hy.2)
theorem SzQ.div {K L:Nat} {x y:Rat} (hx:SzQ K x) (hy:SzQ L y) (hy0:y≠0):SzQ (K + L) (x / y):=by
 rw[div_mk x y hy0]
 have:y.num.natAbs≠0:=fun h=>hy0 ((jd y).1 h)
 exact td _ _ _ (Nat.mul_ne_zero x.den_nz this) _ (ig hx.1 hy.2) (ig hx.2 hy.1)
theorem SzQ.neg {K:Nat} {x:Rat} (hx:SzQ K x):SzQ K (-x):=by
 unfold SzQ at *
 rw[Rat.neg_num,Rat.neg_den,Int.natAbs_neg]
 exact hx
theorem SzQ.sub {K L:Nat} {x y:Rat} (hx:SzQ K x) (hy:SzQ L y):SzQ (K + L + 1) (x - y):=by
 rw[Rat.sub_eq_add_neg]
 exact hx.add hy.neg
end Go.Proofs.YtidmjdmmpajooaaGreat
namespace Go.Proofs.YtidmjdmmpajooaaGreat
open Go.RowKit Dg
structure Only (g:Nat) (w w':World):Prop where
 os:w'.os=w.os
 tape:w'.tape=w.tape
 output:w'.output=w.output
 size:w.heap.size≤w'.heap.size
 block:∀k,k < w.heap.size→k≠g→w'.heap[k]?=w.heap[k]?
theorem Only.refl (g:Nat) (w:World):Only g w w:=⟨rfl,rfl,rfl,Nat.le_refl _,fun _ _ _=>rfl⟩
theorem Only.trans {g:Nat} {a b c:World} (h:Only g a b) (k:Only g b c):Only g a c:=
 ⟨k.os.trans h.os,k.tape.trans h.tape,k.output.trans h.output,Nat.le_trans h.size k.size,fun i hi hg=>(k.block i (Nat.lt_of_lt_of_le hi h.size) hg).trans (h.block i hi hg)⟩
theorem Only.of_below {g:Nat} {w w':World} (h:Below w.heap.size w w'):Only g w w':=⟨h.os,h.tape,h.output,h.size,fun k hk _=>h.block k hk⟩
theorem Only.setCell {g:Nat} {a w:World} (h:Only g a w) (j:Nat) (u:Value):Only g a (w.setCell ⟨g,j,none⟩ u):=
 h.trans ⟨rfl,rfl,rfl,by simp[World.setCell],fun k _ hg=>Below.heap_setCell _ _ _ _ hg⟩
theorem Only.below {g B:Nat} {w w':World} (h:Only g w w') (hB:B≤g) (hB':B≤w.heap.size):Below B w w':=⟨h.os,h.tape,h.output,h.size,fun k hk=>h.block k (by omega) (by omega)⟩
theorem Only.drawN {g:Nat} {a w:World} (h:Only g a w) (n:Nat):Only g a (w.drewN n):=⟨h.os,h.tape,h.output,h.size,h.block⟩
theorem Only.drew {g:Nat} {a w:World} (h:Only g a w):Only g a w.drew:=⟨h.os,h.tape,h.output,h.size,h.block⟩
theorem cell_only {g:Nat} {w w':World} (h:Only g w w') {p:Addr} (hp:p.block < w.heap.size) (hg:p.block≠g):w'.cell? p=w.cell? p:=World.cell?_of_block (w:=w) (h.block p.block hp hg)
theorem Sl.only {k:IntKind} {w w':World} {ao:Option Addr} {n c:Nat} {l:List Nat} (h:Sl k w ao n c l) {g:Nat} (ha:ry g (.slice ao n c)) (ho:Only g w w'):Sl k w' ao n c l:=by
 refine⟨h.len,h.cap,h.max,?_,h.nil,fun a e hn=>?_⟩
 rotate_left
 ·obtain⟨cs,fr,h1⟩:=h.ty a e hn
  exact⟨cs,fr,(ho.block a.block (lt_of_block h1) (ha a n c (by rw[e]) hn)).trans h1⟩
 intro i hi
 obtain⟨b,o,e,hc⟩:=h.cells i hi
 refine⟨b,o,e,fun j hj=>?_⟩
 have h1:=hc j hj
 have h2:=jw h1
 subst e
 have h3:=ha ⟨b,o,none⟩ n c rfl (by have:=h.len;omega)
 rw[cell_only ho (p:=⟨b,o + j,none⟩) h2 h3]
 exact h1
theorem ck.only {k:IntKind} {B:Nat} {w w':World} {v:Value} {x:Nat} (h:ck k B w v x) {g:Nat} (ha:ry g v) (ho:Only g w w'):ck k B w' v x:=by
 obtain⟨ao,n,c,l,e,hs,hc,hv⟩:=h
 subst e
 exact⟨ao,n,c,l,rfl,hs.only ha ho,hc,hv⟩
theorem Blk.only {k:IntKind} {e:TypeId} {w w':World} {g g':Nat} {l:List Nat} (h:Blk k e w g l) (ho:Only g' w w') (hg:g≠g'):Blk k e w' g l:=(ho.block g h.lt hg).trans h
def iz (k:IntKind) (e:TypeId) (w:World) (g:Nat) (l:List Nat) (r:List Value):Prop:=w.heap[g]?=some (.cells ((l.map fun x:Nat=>Value.int k (x:Int)) ++ r).toArray e (0,0))
theorem iz.lt {k:IntKind} {e:TypeId} {w:World} {g:Nat} {l:List Nat} {r:List Value} (h:iz k e w g l r):g < w.heap.size:=lt_of_block h
theorem iz.cell {k:IntKind} {e:TypeId} {w:World} {g:Nat} {l:List Nat} {r:List Value} (h:iz k e w g l r) {j:Nat} (hj:j < l.length):
  w.cell? ⟨g,j,none⟩=some (.int k ((l[j]?.getD 0:Nat):Int)):=by
 unfold iz at h
 simp only[World.cell?,h]
 simp[List.getElem?_append_left,hj]
theorem iz.free {k:IntKind} {e:TypeId} {w:World} {g:Nat} {l:List Nat} {r:List Value} (h:iz k e w g l r) (j:Nat):w.frozen? ⟨g,j,none⟩=false:=by
 unfold iz at h
 simp[World.frozen?,h]
theorem iz.set {k:IntKind} {e:TypeId} {w:World} {g:Nat} {l:List Nat} {r:List Value} (h:iz k e w g l r) (j x:Nat) (hj:j < l.length):iz k e (w.setCell ⟨g,j,none⟩ (.int k (x:Int))) g (l.set j x) r:=by
 unfold iz at h ⊢
 simp only[World.setCell,Array.getElem?_modify,↓reduceIte,h,Option.map_some]
 congr 2
 apply Array.ext'
 simp[List.set_append,hj,List.map_set]
theorem iz.below {k:IntKind} {e:TypeId} {w w':World} {g:Nat} {l:List Nat} {r:List Value} (h:iz k e w g l r) (hb:Below w.heap.size w w'):iz k e w' g l r:=(hb.block g h.lt).trans h
theorem iz.only {k:IntKind} {e:TypeId} {w w':World} {g g':Nat} {l:List Nat} {r:List Value} (h:iz k e w g l r) (hb:Only g' w w') (hg:g≠g'):iz k e w' g l r:=(hb.block g h.lt hg).trans h
theorem iz.drewN {k:IntKind} {e:TypeId} {w:World} {g:Nat} {l:List Nat} {r:List Value} (h:iz k e w g l r) (q:Nat):iz k e (w.drewN q) g l r:=h
theorem iz.sl {k:IntKind} {e:TypeId} {w:World} {g:Nat} {A o C:List Nat} {r:List Value} (h:iz k e w g (A ++ o ++ C) r) (c:Nat) (hc:o.length≤c) (hm:c≤9223372036854775807) (he:e=tyOf k:=by rfl):
  Sl k w (some ⟨g,A.length,none⟩) o.length c o:=
 ⟨rfl,hc,hm,fun i _=>⟨g,A.length,rfl,fun j hj=>by
  rw[h.cell (by simp;omega)]
  rw[List.append_assoc,List.getElem?_append_right (by omega),List.getElem?_append_left (by omega)]
  simp⟩,(fun e=>by cases e),(fun a e' _=>by cases e';exact⟨_,_,he ▸ h⟩)⟩
theorem set_mid (A o C:List Nat) (j x:Nat) (hj:j < o.length):(A ++ o ++ C).set (A.length + j) x=A ++ o.set j x ++ C:=by
 rw[List.append_assoc,List.set_append,if_neg (by omega),List.set_append,if_pos (by omega),List.append_assoc]
 congr 3
 omega
theorem get_mid (A o C:List Nat) (j:Nat) (hj:j < o.length):(A ++ o ++ C)[A.length + j]?.getD 0=o[j]?.getD 0:=by
 rw[List.append_assoc,List.getElem?_append_right (by omega),List.getElem?_append_left (by omega)]
 simp
theorem iz.of_owns {k:IntKind} {e:TypeId} {w:World} {base:Nat} {v:Value} {n:Nat} {l:List Nat} (h:w.ownsRow base e 1 v n (l.map fun x:Nat=>Value.int k (x:Int))) (hv:v≠.slice none 0 0∨0 < n):
  ∃g c r,v=.slice (some ⟨g,0,none⟩) n c∧base≤g∧iz k e w g l r∧n≤c∧c≤9223372036854775807∧l.length=n:=by
 have hl:=h.1
 rw[List.length_map,Nat.mul_one] at hl
 rcases h.2 with ⟨rfl,rfl⟩|⟨g,cap,cur,rfl,hg,hh,hn,hcap,hsz,htk⟩
 ·rcases hv with hv|hv
  ·exact absurd rfl hv
  ·omega
 ·refine⟨g,cap,cur.toList.drop n,rfl,hg,?_,hn,by simpa [maxLen] using hcap,hl⟩
  unfold iz
  rw[Nat.mul_one] at htk
  rw[hh,←htk,List.take_append_drop]
end Go.Proofs.YtidmjdmmpajooaaGreat
namespace Go.Proofs.YtidmjdmmpajooaaGreat
open Go.RowKit Dg
def TyB (t:TypeId) (w:World) (g:Nat):Prop:=∃cs fr,w.heap[g]?=some (.cells cs t fr)
theorem TyB.lt {t:TypeId} {w:World} {g:Nat} (h:TyB t w g):g < w.heap.size:=by
 obtain⟨cs,fr,h⟩:=h
 exact lt_of_block h
theorem TyB.mono {t:TypeId} {w w':World} {g:Nat} (h:TyB t w g) (hb:Below w.heap.size w w'):TyB t w' g:=by
 obtain⟨cs,fr,h1⟩:=h
 exact⟨cs,fr,(hb.block g (lt_of_block h1)).trans h1⟩
theorem TyB.store {t:TypeId} {w:World} {g:Nat} (h:TyB t w g) (p:Addr) (v:Value):TyB t (w.setCell p v) g:=by
 obtain⟨cs,fr,h1⟩:=h
 exact qu.store (n:=1) (ao:=some ⟨g,0,none⟩) (fun a e _=>by cases e;exact⟨cs,fr,h1⟩) p v _ rfl (by omega)
theorem TyB.new (t:TypeId) (w:World) (cs:Array Value):TyB t (w.alloc (.cells cs t)) w.heap.size:=⟨cs,(0,0),heap_alloc_new w _⟩
theorem TyB.ne {t t':TypeId} {w:World} {g g':Nat} (h:TyB t w g) (h':TyB t' w g') (hne:t≠t'):g≠g':=by
 rintro rfl
 obtain⟨cs,fr,h⟩:=h
 obtain⟨cs',fr',h'⟩:=h'
 rw[h] at h'
 injection h' with h'
 injection h' with _ ht
 exact hne ht
theorem qu.ne {t T:TypeId} {w:World} {ao:Option Addr} {n g:Nat} (h:qu t w ao n) (hg:TyB T w g) (hne:T≠t) {a:Addr} (e:ao=some a) (hn:0 < n):a.block≠g:=by
 obtain⟨cs,fr,h1⟩:=h a e hn
 exact TyB.ne ⟨cs,fr,h1⟩ hg (Ne.symm hne)
structure dg (T:TypeId) (w w':World):Prop where
 size:w.heap.size≤w'.heap.size
 block:∀k,k < w.heap.size→¬ TyB T w k→w'.heap[k]?=w.heap[k]?
theorem dg.refl (T:TypeId) (w:World):dg T w w:=⟨Nat.le_refl _,fun _ _ _=>rfl⟩
theorem dg.store {T:TypeId} {w:World} {g:Nat} (hg:TyB T w g) (j:Nat) (u:Value):dg T w (w.setCell ⟨g,j,none⟩ u):=
 ⟨by simp[World.setCell],fun k _ hn=>Below.heap_setCell _ _ _ _ (fun e=>hn (by subst e;exact hg))⟩
theorem dg.cell {T:TypeId} {w w':World} (h:dg T w w') {a:Addr} {v:Value} (hc:w.cell? a=some v) (hn:¬ TyB T w a.block):w'.cell? a=some v:=
 (World.cell?_of_block (h.block a.block (jw hc) hn)).trans hc
theorem dg.ty {T t:TypeId} {w w':World} (h:dg T w w') {g:Nat} (hg:TyB t w g) (hne:T≠t):TyB t w' g:=by
 have hlt:=hg.lt
 obtain⟨cs,fr,h1⟩:=id hg
 exact⟨cs,fr,(h.block g hlt (fun hT=>(TyB.ne hT hg hne) rfl)).trans h1⟩
theorem dg.of_below {T:TypeId} {w w':World} (h:Below w.heap.size w w'):dg T w w':=⟨h.size,fun k hk _=>h.block k hk⟩
theorem dg.trans {T:TypeId} {a b c:World} (h:dg T a b) (h':dg T b c):dg T a c:=
 ⟨Nat.le_trans h.size h'.size,fun k hk hn=>(h'.block k (Nat.lt_of_lt_of_le hk h.size) (fun hT=>hn (by
  obtain⟨cs,fr,h1⟩:=hT
  exact Classical.byContradiction fun hc=>hc ⟨cs,fr,(h.block k hk hc).symm.trans h1⟩))).trans (h.block k hk hn)⟩
theorem dg.set {T:TypeId} {a w:World} {g:Nat} (h:dg T a w) (hg:TyB T w g) (j:Nat) (u:Value):dg T a (w.setCell ⟨g,j,none⟩ u):=h.trans (.store hg j u)
theorem dg.alloc {T:TypeId} {a w:World} (h:dg T a w) (o:Obj):dg T a (w.alloc o):=h.trans (.of_below ((Below.refl _ _).alloc (Nat.le_refl _) o))
theorem dg.drew {T:TypeId} {a w:World} (h:dg T a w):dg T a w.drew:=h.trans (.of_below (Below.refl _ _).drew)
theorem Sl.onlyT {k:IntKind} {T:TypeId} {w w':World} {ao:Option Addr} {n c:Nat} {l:List Nat} (h:Sl k w ao n c l) (ho:dg T w w') (hne:T≠tyOf k):Sl k w' ao n c l:=by
 refine⟨h.len,h.cap,h.max,?_,h.nil,fun a e hn=>?_⟩
 ·intro i hi
  obtain⟨b,o,e,hc⟩:=h.cells i hi
  refine⟨b,o,e,fun j hj=>ho.cell (hc j hj) (fun hT=>?_)⟩
  exact h.ty.ne hT hne e (by have:=h.len;omega) rfl
 ·exact ho.ty (h.ty a e hn) hne
theorem ck.onlyT {k:IntKind} {B:Nat} {T:TypeId} {w w':World} {v:Value} {x:Nat} (h:ck k B w v x) (ho:dg T w w') (hne:T≠tyOf k):ck k B w' v x:=by
 obtain⟨ao,n,c,l,e,hs,hc,hv⟩:=h
 exact⟨ao,n,c,l,e,hs.onlyT ho hne,hc,hv⟩
section
variable {w w':World} {base:Nat} {e:TypeId} {size:Nat} {v:Value} {n:Nat} {xs:List Value}
theorem jd3 (h:Below w.heap.size w w') (row:Option Nat):w.grownBy w' row:=⟨h.os,h.tape,h.output,h.size,fun i hi _=>h.block i hi⟩
theorem qz (h:w.ownsRow base e size v n xs) (hb:Below w.heap.size w w'):w'.ownsRow base e size v n xs:=
 h.kept (jd3 hb none) (by cases v.ownBlock<;>simp)
theorem owns_ty (h:w.ownsRow base e size v n xs) {g:Nat} (hg:v.ownBlock=some g):TyB e w g:=by
 rcases h.2 with ⟨rfl,_⟩|⟨g',cap,cur,rfl,_,hgg,_⟩
 ·simp[Value.ownBlock] at hg
 ·simp[Value.ownBlock] at hg
  subst hg
  exact⟨_,_,hgg⟩
theorem iu (h:w.ownsRow base e size v n xs) (hg:w.grownBy w' v.ownBlock):dg e w w':=
 ⟨hg.size,fun k hk hn=>hg.block k hk (fun he=>hn (owns_ty h he.symm))⟩
theorem zi {w0:World} (h:w.ownsRow base e size v n xs) (hg:w.grownBy w' v.ownBlock) (hb:Below base w0 w) (hB:base≤w.heap.size):Below base w0 w':=
 hb.grown hg hB (fun k hk=>(h.lt k hk).1)
theorem jd8 {e':TypeId} {base' size' n':Nat} {v':Value} {xs':List Value} (h:w.ownsRow base' e' size' v' n' xs') (ho:dg e w w') (hne:e≠e'):w'.ownsRow base' e' size' v' n' xs':=by
 refine⟨h.1,?_⟩
 rcases h.2 with hn|⟨g,cap,cur,rfl,hb,hgg,rest⟩
 ·exact .inl hn
 ·exact .inr ⟨g,cap,cur,rfl,hb,(ho.block g (lt_of_block hgg) (fun hT=>(TyB.ne hT ⟨_,_,hgg⟩ hne) rfl)).trans hgg,rest⟩
theorem rd (h:w.ownsRow base e size v n xs):∃ao c,v=.slice ao n c∧n≤c∧c≤9223372036854775807∧(ao=none→c=0):=by
 rcases h.2 with ⟨rfl,rfl⟩|⟨g,cap,cur,rfl,_,_,hn,hcap,_⟩
 ·exact⟨_,_,rfl,Nat.le_refl _,by omega,fun _=>rfl⟩
 ·exact⟨_,_,rfl,hn,by simpa [maxLen] using hcap,fun e=>by cases e⟩
end
theorem news_new (w:World) (cs:List Value) (t:TypeId):∀j u,cs[j]?=some u→(w.alloc (.cells cs.toArray t)).cell? ((⟨w.heap.size,0,none⟩:Addr).add j)=some u:=by
 intro j u hu
 rw[iy,World.cell?_alloc_at _ _ _ _ rfl]
 simpa using hu
end Go.Proofs.YtidmjdmmpajooaaGreat
