/-
  How numbers lie in memory, second part: a block with room behind the numbers ('BlkC'), and a change of one block alone ('Only').
-/
import Derived.Test.YtidmjdmmpajooaaGreatPkW0W
import Derived.Test.YtidmjdmmpajooaaGreatProg
import Derived.Deep.AppendLies
import Derived.Handy
import Derived.Deep.QuietTactic
import Derived.BigQuiet
import Derived.Deep.LoopGhost
import Derived.Shelf.Spec.BitsCarry
set_option linter.unusedSimpArgs false
set_option linter.unusedVariables false
set_option maxRecDepth 100000
set_option maxHeartbeats 1000000
namespace Go.Proofs.YtidmjdmmpajooaaGreat
open Go.RowKit Dg
structure Only (g:Nat) (w w':World):Prop where
 os:w'.os=w.os
 tape:w'.tape=w.tape
 output:w'.output=w.output
 size:w.heap.size≤w'.heap.size
 block:∀k,k < w.heap.size→k≠g→w'.heap[k]?=w.heap[k]?
theorem Only.refl (g:Nat) (w:World):Only g w w:=⟨rfl,rfl,rfl,Nat.le_refl _,fun _ _ _=>rfl⟩
theorem Only.trans {g:Nat} {a b c:World} (h:Only g a b) (k:Only g b c):Only g a c:=
 ⟨k.os.trans h.os,k.tape.trans h.tape,k.output.trans h.output,Nat.le_trans h.size k.size,fun i hi hg=>(k.block i (Nat.lt_of_lt_of_le hi h.size) hg).trans (h.block i hi hg)⟩
theorem Only.of_below {g:Nat} {w w':World} (h:Below w.heap.size w w'):Only g w w':=⟨h.os,h.tape,h.output,h.size,fun k hk _=>h.block k hk⟩
theorem Only.setCell {g:Nat} {a w:World} (h:Only g a w) (j:Nat) (u:Value):Only g a (w.setCell ⟨g,j,none⟩ u):=
 h.trans ⟨rfl,rfl,rfl,by simp[World.setCell],fun k _ hg=>Below.heap_setCell _ _ _ _ hg⟩
theorem Only.below {g B:Nat} {w w':World} (h:Only g w w') (hB:B≤g) (hB':B≤w.heap.size):Below B w w':=⟨h.os,h.tape,h.output,h.size,fun k hk=>h.block k (by omega) (by omega)⟩
theorem Only.drawN {g:Nat} {a w:World} (h:Only g a w) (n:Nat):Only g a (w.drewN n):=⟨h.os,h.tape,h.output,h.size,h.block⟩
theorem Only.drew {g:Nat} {a w:World} (h:Only g a w):Only g a w.drew:=⟨h.os,h.tape,h.output,h.size,h.block⟩
theorem cell_only {g:Nat} {w w':World} (h:Only g w w') {p:Addr} (hp:p.block < w.heap.size) (hg:p.block≠g):w'.cell? p=w.cell? p:=World.cell?_of_block (w:=w) (h.block p.block hp hg)
theorem Sl.only {k:IntKind} {w w':World} {ao:Option Addr} {n c:Nat} {l:List Nat} (h:Sl k w ao n c l) {g:Nat} (ha:ry g (.slice ao n c)) (ho:Only g w w'):Sl k w' ao n c l:=by
 refine⟨h.len,h.cap,h.max,?_,h.nil,fun a e hn=>?_⟩
 rotate_left
 ·obtain⟨cs,fr,h1⟩:=h.ty a e hn
  exact⟨cs,fr,(ho.block a.block (lt_of_block h1) (ha a n c (by rw[e]) hn)).trans h1⟩
 intro i hi
 obtain⟨b,o,e,hc⟩:=h.cells i hi
 refine⟨b,o,e,fun j hj=>?_⟩
 have h1:=hc j hj
 have h2:=jw h1
 subst e
 have h3:=ha ⟨b,o,none⟩ n c rfl (by have:=h.len;omega)
 rw[cell_only ho (p:=⟨b,o + j,none⟩) h2 h3]
 exact h1
theorem ck.only {k:IntKind} {B:Nat} {w w':World} {v:Value} {x:Nat} (h:ck k B w v x) {g:Nat} (ha:ry g v) (ho:Only g w w'):ck k B w' v x:=by
 obtain⟨ao,n,c,l,e,hs,hc,hv⟩:=h
 subst e
 exact⟨ao,n,c,l,rfl,hs.only ha ho,hc,hv⟩
theorem Blk.only {k:IntKind} {e:TypeId} {w w':World} {g g':Nat} {l:List Nat} (h:Blk k e w g l) (ho:Only g' w w') (hg:g≠g'):Blk k e w' g l:=(ho.block g h.lt hg).trans h
def iz (k:IntKind) (e:TypeId) (w:World) (g:Nat) (l:List Nat) (r:List Value):Prop:=w.heap[g]?=some (.cells ((l.map fun x:Nat=>Value.int k (x:Int)) ++ r).toArray e (0,0))
theorem iz.lt {k:IntKind} {e:TypeId} {w:World} {g:Nat} {l:List Nat} {r:List Value} (h:iz k e w g l r):g < w.heap.size:=lt_of_block h
theorem iz.cell {k:IntKind} {e:TypeId} {w:World} {g:Nat} {l:List Nat} {r:List Value} (h:iz k e w g l r) {j:Nat} (hj:j < l.length):
  w.cell? ⟨g,j,none⟩=some (.int k ((l[j]?.getD 0:Nat):Int)):=by
 unfold iz at h
 simp only[World.cell?,h]
 simp[List.getElem?_append_left,hj]
theorem iz.free {k:IntKind} {e:TypeId} {w:World} {g:Nat} {l:List Nat} {r:List Value} (h:iz k e w g l r) (j:Nat):w.frozen? ⟨g,j,none⟩=false:=by
 unfold iz at h
 simp[World.frozen?,h]
theorem iz.set {k:IntKind} {e:TypeId} {w:World} {g:Nat} {l:List Nat} {r:List Value} (h:iz k e w g l r) (j x:Nat) (hj:j < l.length):iz k e (w.setCell ⟨g,j,none⟩ (.int k (x:Int))) g (l.set j x) r:=by
 unfold iz at h ⊢
 simp only[World.setCell,Array.getElem?_modify,↓reduceIte,h,Option.map_some]
 congr 2
 apply Array.ext'
 simp[List.set_append,hj,List.map_set]
theorem iz.below {k:IntKind} {e:TypeId} {w w':World} {g:Nat} {l:List Nat} {r:List Value} (h:iz k e w g l r) (hb:Below w.heap.size w w'):iz k e w' g l r:=(hb.block g h.lt).trans h
theorem iz.only {k:IntKind} {e:TypeId} {w w':World} {g g':Nat} {l:List Nat} {r:List Value} (h:iz k e w g l r) (hb:Only g' w w') (hg:g≠g'):iz k e w' g l r:=(hb.block g h.lt hg).trans h
theorem iz.drewN {k:IntKind} {e:TypeId} {w:World} {g:Nat} {l:List Nat} {r:List Value} (h:iz k e w g l r) (q:Nat):iz k e (w.drewN q) g l r:=h
theorem iz.sl {k:IntKind} {e:TypeId} {w:World} {g:Nat} {A o C:List Nat} {r:List Value} (h:iz k e w g (A ++ o ++ C) r) (c:Nat) (hc:o.length≤c) (hm:c≤9223372036854775807) (he:e=tyOf k:=by rfl):
  Sl k w (some ⟨g,A.length,none⟩) o.length c o:=
 ⟨rfl,hc,hm,fun i _=>⟨g,A.length,rfl,fun j hj=>by
  rw[h.cell (by simp;omega)]
  rw[List.append_assoc,List.getElem?_append_right (by omega),List.getElem?_append_left (by omega)]
  simp⟩,(fun e=>by cases e),(fun a e' _=>by cases e';exact⟨_,_,he ▸ h⟩)⟩
theorem set_mid (A o C:List Nat) (j x:Nat) (hj:j < o.length):(A ++ o ++ C).set (A.length + j) x=A ++ o.set j x ++ C:=by
 rw[List.append_assoc,List.set_append,if_neg (by omega),List.set_append,if_pos (by omega),List.append_assoc]
 congr 3
 omega
theorem get_mid (A o C:List Nat) (j:Nat) (hj:j < o.length):(A ++ o ++ C)[A.length + j]?.getD 0=o[j]?.getD 0:=by
 rw[List.append_assoc,List.getElem?_append_right (by omega),List.getElem?_append_left (by omega)]
 simp
theorem iz.of_owns {k:IntKind} {e:TypeId} {w:World} {base:Nat} {v:Value} {n:Nat} {l:List Nat} (h:w.ownsRow base e 1 v n (l.map fun x:Nat=>Value.int k (x:Int))) (hv:v≠.slice none 0 0∨0 < n):
  ∃g c r,v=.slice (some ⟨g,0,none⟩) n c∧base≤g∧iz k e w g l r∧n≤c∧c≤9223372036854775807∧l.length=n:=by
 have hl:=h.1
 rw[List.length_map,Nat.mul_one] at hl
 rcases h.2 with ⟨rfl,rfl⟩|⟨g,cap,cur,rfl,hg,hh,hn,hcap,hsz,htk⟩
 ·rcases hv with hv|hv
  ·exact absurd rfl hv
  ·omega
 ·refine⟨g,cap,cur.toList.drop n,rfl,hg,?_,hn,by simpa [maxLen] using hcap,hl⟩
  unfold iz
  rw[Nat.mul_one] at htk
  rw[hh,←htk,List.take_append_drop]
end Go.Proofs.YtidmjdmmpajooaaGreat
namespace Go.Proofs.YtidmjdmmpajooaaGreat
open Go.RowKit Dg
def TyB (t:TypeId) (w:World) (g:Nat):Prop:=∃cs fr,w.heap[g]?=some (.cells cs t fr)
theorem TyB.lt {t:TypeId} {w:World} {g:Nat} (h:TyB t w g):g < w.heap.size:=by
 obtain⟨cs,fr,h⟩:=h
 exact lt_of_block h
theorem TyB.mono {t:TypeId} {w w':World} {g:Nat} (h:TyB t w g) (hb:Below w.heap.size w w'):TyB t w' g:=by
 obtain⟨cs,fr,h1⟩:=h
 exact⟨cs,fr,(hb.block g (lt_of_block h1)).trans h1⟩
theorem TyB.store {t:TypeId} {w:World} {g:Nat} (h:TyB t w g) (p:Addr) (v:Value):TyB t (w.setCell p v) g:=by
 obtain⟨cs,fr,h1⟩:=h
 exact qu.store (n:=1) (ao:=some ⟨g,0,none⟩) (fun a e _=>by cases e;exact⟨cs,fr,h1⟩) p v _ rfl (by omega)
theorem TyB.new (t:TypeId) (w:World) (cs:Array Value):TyB t (w.alloc (.cells cs t)) w.heap.size:=⟨cs,(0,0),heap_alloc_new w _⟩
theorem TyB.ne {t t':TypeId} {w:World} {g g':Nat} (h:TyB t w g) (h':TyB t' w g') (hne:t≠t'):g≠g':=by
 rintro rfl
 obtain⟨cs,fr,h⟩:=h
 obtain⟨cs',fr',h'⟩:=h'
 rw[h] at h'
 injection h' with h'
 injection h' with _ ht
 exact hne ht
theorem qu.ne {t T:TypeId} {w:World} {ao:Option Addr} {n g:Nat} (h:qu t w ao n) (hg:TyB T w g) (hne:T≠t) {a:Addr} (e:ao=some a) (hn:0 < n):a.block≠g:=by
 obtain⟨cs,fr,h1⟩:=h a e hn
 exact TyB.ne ⟨cs,fr,h1⟩ hg (Ne.symm hne)
structure dg (T:TypeId) (w w':World):Prop where
 size:w.heap.size≤w'.heap.size
 block:∀k,k < w.heap.size→¬ TyB T w k→w'.heap[k]?=w.heap[k]?
theorem dg.refl (T:TypeId) (w:World):dg T w w:=⟨Nat.le_refl _,fun _ _ _=>rfl⟩
theorem dg.store {T:TypeId} {w:World} {g:Nat} (hg:TyB T w g) (j:Nat) (u:Value):dg T w (w.setCell ⟨g,j,none⟩ u):=
 ⟨by simp[World.setCell],fun k _ hn=>Below.heap_setCell _ _ _ _ (fun e=>hn (by subst e;exact hg))⟩
theorem dg.cell {T:TypeId} {w w':World} (h:dg T w w') {a:Addr} {v:Value} (hc:w.cell? a=some v) (hn:¬ TyB T w a.block):w'.cell? a=some v:=
 (World.cell?_of_block (h.block a.block (jw hc) hn)).trans hc
theorem dg.ty {T t:TypeId} {w w':World} (h:dg T w w') {g:Nat} (hg:TyB t w g) (hne:T≠t):TyB t w' g:=by
 have hlt:=hg.lt
 obtain⟨cs,fr,h1⟩:=id hg
 exact⟨cs,fr,(h.block g hlt (fun hT=>(TyB.ne hT hg hne) rfl)).trans h1⟩
theorem dg.of_below {T:TypeId} {w w':World} (h:Below w.heap.size w w'):dg T w w':=⟨h.size,fun k hk _=>h.block k hk⟩
theorem dg.trans {T:TypeId} {a b c:World} (h:dg T a b) (h':dg T b c):dg T a c:=
 ⟨Nat.le_trans h.size h'.size,fun k hk hn=>(h'.block k (Nat.lt_of_lt_of_le hk h.size) (fun hT=>hn (by
  obtain⟨cs,fr,h1⟩:=hT
  exact Classical.byContradiction fun hc=>hc ⟨cs,fr,(h.block k hk hc).symm.trans h1⟩))).trans (h.block k hk hn)⟩
theorem dg.set {T:TypeId} {a w:World} {g:Nat} (h:dg T a w) (hg:TyB T w g) (j:Nat) (u:Value):dg T a (w.setCell ⟨g,j,none⟩ u):=h.trans (.store hg j u)
theorem dg.alloc {T:TypeId} {a w:World} (h:dg T a w) (o:Obj):dg T a (w.alloc o):=h.trans (.of_below ((Below.refl _ _).alloc (Nat.le_refl _) o))
theorem dg.drew {T:TypeId} {a w:World} (h:dg T a w):dg T a w.drew:=h.trans (.of_below (Below.refl _ _).drew)
theorem Sl.onlyT {k:IntKind} {T:TypeId} {w w':World} {ao:Option Addr} {n c:Nat} {l:List Nat} (h:Sl k w ao n c l) (ho:dg T w w') (hne:T≠tyOf k):Sl k w' ao n c l:=by
 refine⟨h.len,h.cap,h.max,?_,h.nil,fun a e hn=>?_⟩
 ·intro i hi
  obtain⟨b,o,e,hc⟩:=h.cells i hi
  refine⟨b,o,e,fun j hj=>ho.cell (hc j hj) (fun hT=>?_)⟩
  exact h.ty.ne hT hne e (by have:=h.len;omega) rfl
 ·exact ho.ty (h.ty a e hn) hne
theorem ck.onlyT {k:IntKind} {B:Nat} {T:TypeId} {w w':World} {v:Value} {x:Nat} (h:ck k B w v x) (ho:dg T w w') (hne:T≠tyOf k):ck k B w' v x:=by
 obtain⟨ao,n,c,l,e,hs,hc,hv⟩:=h
 exact⟨ao,n,c,l,e,hs.onlyT ho hne,hc,hv⟩
section
variable {w w':World} {base:Nat} {e:TypeId} {size:Nat} {v:Value} {n:Nat} {xs:List Value}
theorem jd3 (h:Below w.heap.size w w') (row:Option Nat):w.grownBy w' row:=⟨h.os,h.tape,h.output,h.size,fun i hi _=>h.block i hi⟩
theorem qz (h:w.ownsRow base e size v n xs) (hb:Below w.heap.size w w'):w'.ownsRow base e size v n xs:=
 h.kept (jd3 hb none) (by cases v.ownBlock<;>simp)
theorem owns_ty (h:w.ownsRow base e size v n xs) {g:Nat} (hg:v.ownBlock=some g):TyB e w g:=by
 rcases h.2 with ⟨rfl,_⟩|⟨g',cap,cur,rfl,_,hgg,_⟩
 ·simp[Value.ownBlock] at hg
 ·simp[Value.ownBlock] at hg
  subst hg
  exact⟨_,_,hgg⟩
theorem iu (h:w.ownsRow base e size v n xs) (hg:w.grownBy w' v.ownBlock):dg e w w':=
 ⟨hg.size,fun k hk hn=>hg.block k hk (fun he=>hn (owns_ty h he.symm))⟩
theorem zi {w0:World} (h:w.ownsRow base e size v n xs) (hg:w.grownBy w' v.ownBlock) (hb:Below base w0 w) (hB:base≤w.heap.size):Below base w0 w':=
 hb.grown hg hB (fun k hk=>(h.lt k hk).1)
theorem jd8 {e':TypeId} {base' size' n':Nat} {v':Value} {xs':List Value} (h:w.ownsRow base' e' size' v' n' xs') (ho:dg e w w') (hne:e≠e'):w'.ownsRow base' e' size' v' n' xs':=by
 refine⟨h.1,?_⟩
 rcases h.2 with hn|⟨g,cap,cur,rfl,hb,hgg,rest⟩
 ·exact .inl hn
 ·exact .inr ⟨g,cap,cur,rfl,hb,(ho.block g (lt_of_block hgg) (fun hT=>(TyB.ne hT ⟨_,_,hgg⟩ hne) rfl)).trans hgg,rest⟩
theorem rd (h:w.ownsRow base e size v n xs):∃ao c,v=.slice ao n c∧n≤c∧c≤9223372036854775807∧(ao=none→c=0):=by
 rcases h.2 with ⟨rfl,rfl⟩|⟨g,cap,cur,rfl,_,_,hn,hcap,_⟩
 ·exact⟨_,_,rfl,Nat.le_refl _,by omega,fun _=>rfl⟩
 ·exact⟨_,_,rfl,hn,by simpa [maxLen] using hcap,fun e=>by cases e⟩
end
theorem news_new (w:World) (cs:List Value) (t:TypeId):∀j u,cs[j]?=some u→(w.alloc (.cells cs.toArray t)).cell? ((⟨w.heap.size,0,none⟩:Addr).add j)=some u:=by
 intro j u hu
 rw[iy,World.cell?_alloc_at _ _ _ _ rfl]
 simpa using hu
end Go.Proofs.YtidmjdmmpajooaaGreat
namespace Go.Proofs.YtidmjdmmpajooaaGreat
open Go.RowKit Dg
theorem Calls.abs {P:Program} {f:FuncId} {args:Array Value} {w:World} {R:Ending→World→Prop} (h:∀w',w'=w→Calls P f args w' R):Calls P f args w R:=h w rfl
theorem Code.abs {P:Program} {c:Code} {Q:Exit→Act→World→Prop} {a:Act} {w:World} (h:∀w',w'=w→c.wp P Q a w'):c.wp P Q a w:=h w rfl
theorem bodyPost.abs {P:Program} {fn:Func} {R:Ending→World→Prop} {e:Exit} {a:Act} {w:World} (h:∀w',w'=w→bodyPost P fn R e a w'):bodyPost P fn R e a w:=h w rfl
theorem wpList.abs {P:Program} {ops:Array Oper} {Q:Exit→Act→World→Prop} {l:List Oper} {a:Act} {w:World} (h:∀w',w'=w→wpList P ops Q l a w'):wpList P ops Q l a w:=h w rfl
def Bx (w:World) (g:Nat) (t:TypeId) (cs:Array Value):Prop:=w.heap[g]?=some (.cells cs t (0,0))
section
variable {w w':World} {g:Nat} {t:TypeId} {cs:Array Value}
theorem Bx.lt (h:Bx w g t cs):g < w.heap.size:=lt_of_block h
theorem Bx.ty (h:Bx w g t cs):TyB t w g:=⟨cs,(0,0),h⟩
theorem Bx.at (h:Bx w g t cs) (i:Nat) {v:Value} (hv:cs[i]?=some v):w.cell? ⟨g,i,none⟩=some v:=by rw[cell_of_row w g i cs t (0,0) h];exact hv
theorem Bx.news {l:List Value} (h:Bx w g t l.toArray):∀j u,l[j]?=some u→w.cell? ((⟨g,0,none⟩:Addr).add j)=some u:=fun j u hu=>by
 rw[iy,Nat.zero_add];exact h.at j (by simpa using hu)
theorem Bx.free (h:Bx w g t cs) (i:Nat):w.frozen? ⟨g,i,none⟩=false:=by
 unfold Bx at h
 simp[World.frozen?,h]
theorem Bx.new (w:World) (t:TypeId) (cs:Array Value):Bx (w.alloc (.cells cs t)) w.heap.size t cs:=heap_alloc_new w _
theorem Bx.new' (w:World) (t:TypeId) (cs:Array Value) (g:Nat) (hg:g=w.heap.size):Bx (w.alloc (.cells cs t)) g t cs:=by subst hg;exact heap_alloc_new w _
theorem Bx.drew (h:Bx w g t cs):Bx w.drew g t cs:=h
theorem Bx.drewN (h:Bx w g t cs) (n:Nat):Bx (w.drewN n) g t cs:=h
theorem Bx.alloc (h:Bx w g t cs) (o:Obj):Bx (w.alloc o) g t cs:=(Below.heap_alloc w o g h.lt).trans h
theorem Bx.set (h:Bx w g t cs) (i:Nat) (u:Value) {cs':Array Value} (hc:cs.setIfInBounds i u=cs'):Bx (w.setCell ⟨g,i,none⟩ u) g t cs':=by
 subst hc
 unfold Bx at h ⊢
 simp[World.setCell,Array.getElem?_modify,h]
theorem Bx.far (h:Bx w g t cs) {p:Addr} (hp:g≠p.block) (u:Value):Bx (w.setCell p u) g t cs:=(Below.heap_setCell w p u g hp).trans h
theorem Bx.mono (h:Bx w g t cs) (hb:Below w.heap.size w w'):Bx w' g t cs:=(hb.block g h.lt).trans h
theorem Bx.grown {row:Option Nat} (h:Bx w g t cs) (hb:w.grownBy w' row) (hg:some g≠row):Bx w' g t cs:=(hb.block g h.lt hg).trans h
theorem Bx.only {T:TypeId} (h:Bx w g t cs) (ho:dg T w w') (hne:T≠t):Bx w' g t cs:=(ho.block g h.lt (fun hT=>(TyB.ne hT h.ty hne) rfl)).trans h
end
structure aw (w w':World):Prop where
 size:w.heap.size≤w'.heap.size
 block:∀k t,TyB t w k→(t=95∨t=152)→w'.heap[k]?=w.heap[k]?
theorem aw.refl (w:World):aw w w:=⟨Nat.le_refl _,fun _ _ _ _=>rfl⟩
theorem aw.ty {w w':World} (h:aw w w') {k:Nat} {t:TypeId} (hk:TyB t w k) (ht:t=95∨t=152):TyB t w' k:=by
 obtain⟨cs,fr,h1⟩:=id hk
 exact⟨cs,fr,(h.block k t hk ht).trans h1⟩
theorem aw.trans {a b c:World} (h:aw a b) (h':aw b c):aw a c:=
 ⟨Nat.le_trans h.size h'.size,fun k t hk ht=>(h'.block k t (h.ty hk ht) ht).trans (h.block k t hk ht)⟩
theorem aw.of_below {w w':World} (h:Below w.heap.size w w'):aw w w':=⟨h.size,fun k _ hk _=>h.block k hk.lt⟩
theorem aw.below {a w w':World} (h:aw a w) (hb:Below w.heap.size w w'):aw a w':=h.trans (.of_below hb)
theorem aw.alloc {a w:World} (h:aw a w) (o:Obj):aw a (w.alloc o):=h.below ((Below.refl _ _).alloc (Nat.le_refl _) o)
theorem aw.drew {a w:World} (h:aw a w):aw a w.drew:=h.below (Below.refl _ _).drew
theorem aw.drewN {a w:World} (h:aw a w) (n:Nat):aw a (w.drewN n):=h.below (it (Below.refl _ _) n)
theorem aw.of_only {w w':World} {T:TypeId} (h:dg T w w') (hT:T≠95∧T≠152):aw w w':=
 ⟨h.size,fun k t hk ht=>h.block k hk.lt (fun hT'=>by
  rcases ht with rfl|rfl
  ·exact TyB.ne hT' hk hT.1 rfl
  ·exact TyB.ne hT' hk hT.2 rfl)⟩
theorem aw.set {a w:World} {g:Nat} {T:TypeId} (h:aw a w) (hg:TyB T w g) (hT:T≠95∧T≠152) (j:Nat) (u:Value):aw a (w.setCell ⟨g,j,none⟩ u):=
 h.trans (.of_only (dg.store hg j u) hT)
theorem aw.owns {w w':World} {base:Nat} {e:TypeId} {size:Nat} {v:Value} {n:Nat} {xs:List Value} (h:w.ownsRow base e size v n xs) (hg:w.grownBy w' v.ownBlock) (he:e≠95∧e≠152):aw w w':=
 .of_only (iu h hg) he
theorem TyB.alloc {t:TypeId} {w:World} {g:Nat} (h:TyB t w g) (o:Obj):TyB t (w.alloc o) g:=h.mono ((Below.refl _ _).alloc (Nat.le_refl _) o)
theorem TyB.drew {t:TypeId} {w:World} {g:Nat} (h:TyB t w g):TyB t w.drew g:=h
theorem ck.keep {k:IntKind} {B:Nat} {w w':World} {v:Value} {x:Nat} (h:ck k B w v x) (hk:aw w w') (ht:tyOf k=95∨tyOf k=152:=by first|exact .inl rfl|exact .inr rfl):ck k B w' v x:=by
 obtain⟨ao,n,c,l,e,hs,hc,hv⟩:=h
 refine⟨ao,n,c,l,e,⟨hs.len,hs.cap,hs.max,?_,hs.nil,fun a e' hn=>hk.ty (hs.ty a e' hn) ht⟩,hc,hv⟩
 intro i hi
 obtain⟨b,o,e',hcl⟩:=hs.cells i hi
 refine⟨b,o,e',fun j hj=>?_⟩
 have h1:=hcl j hj
 exact (World.cell?_of_block (hk.block b _ (hs.ty _ e' (by have:=hs.len;omega)) ht)).trans h1
def PV (w:World) (v:Value) (q:Rat):Prop:=
 ∃vn vd,v=.agg #[.bool (ng q),vn,vd]∧ck .u64 18446744073709551616 w vn q.num.natAbs∧ck .u64 18446744073709551616 w vd (if q.den=1 then 0 else q.den)
theorem PV.mono {w w':World} {v:Value} {q:Rat} (h:PV w v q) (hb:Below w.heap.size w w'):PV w' v q:=by
 obtain⟨vn,vd,e,h1,h2⟩:=h
 exact⟨vn,vd,e,h1.mono hb,h2.mono hb⟩
theorem PV.keep {w w':World} {v:Value} {q:Rat} (h:PV w v q) (hk:aw w w'):PV w' v q:=by
 obtain⟨vn,vd,e,h1,h2⟩:=h
 exact⟨vn,vd,e,h1.keep hk (.inl rfl),h2.keep hk (.inl rfl)⟩
theorem RV.keep {w w':World} {v:Value} {q:Rat} (h:RV w v q) (hk:aw w w'):RV w' v q:=by
 obtain⟨vn,vd,d,e,h1,h2,h3⟩:=h
 exact⟨vn,vd,d,e,h1.keep hk (.inr rfl),h2.keep hk (.inr rfl),h3⟩
theorem PV.shape {w:World} {v:Value} {q:Rat} (h:PV w v q):∃s a1 n1 c1 a2 n2 c2,v=.agg #[.bool s,.slice a1 n1 c1,.slice a2 n2 c2]:=by
 obtain⟨vn,vd,e,⟨a1,n1,c1,l1,rfl,_⟩,⟨a2,n2,c2,l2,rfl,_⟩⟩:=h
 exact⟨_,_,_,_,_,_,_,e⟩
theorem RV.shape {w:World} {v:Value} {q:Rat} (h:RV w v q):∃s a1 n1 c1 a2 n2 c2,v=.agg #[.bool s,.slice a1 n1 c1,.slice a2 n2 c2]:=by
 obtain⟨vn,vd,d,e,⟨a1,n1,c1,l1,rfl,_⟩,⟨a2,n2,c2,l2,rfl,_⟩,_⟩:=h
 exact⟨_,_,_,_,_,_,_,e⟩
theorem ck.shape {k:IntKind} {B:Nat} {w:World} {v:Value} {x:Nat} (h:ck k B w v x):∃a n c,v=.slice a n c:=by
 obtain⟨a,n,c,l,e,_⟩:=h
 exact⟨_,_,_,e⟩
theorem PV.parts {w:World} {q:Rat} {s v1 v2:Value} (h:PV w (.agg #[s,v1,v2]) q):s=.bool (ng q)∧ck .u64 18446744073709551616 w v1 q.num.natAbs∧ck .u64 18446744073709551616 w v2 (if q.den=1 then 0 else q.den):=by
 obtain⟨vn,vd,e,h1,h2⟩:=h
 injection e with e
 injection e with e
 injection e with e1 e
 injection e with e2 e
 injection e with e3 e
 subst e1 e2 e3
 exact⟨rfl,h1,h2⟩
theorem PV.sign {w:World} {q:Rat} {s:Bool} {v1 v2:Value} (h:PV w (.agg #[.bool s,v1,v2]) q):s=ng q:=by
 have:=h.parts.1
 injection this
theorem PV.mk' {w:World} {q:Rat} {b:Bool} {v1 v2:Value} {n d:Nat} (h1:ck .u64 18446744073709551616 w v1 n) (h2:ck .u64 18446744073709551616 w v2 d) (hb:b=ng q) (hn:n=q.num.natAbs) (hd:d=if q.den=1 then 0 else q.den):PV w (.agg #[.bool b,v1,v2]) q:=by
 subst hb hn hd
 exact⟨v1,v2,rfl,h1,h2⟩
def Ret1 (R:World→Value→Prop) (w:World) (e:Ending) (w':World):Prop:=∃v,e=.returned v∧R w' v∧Below w.heap.size w w'
def Ret2 (R1 R2:World→Value→Prop) (w:World) (e:Ending) (w':World):Prop:=∃v1 v2,e=.returned (.tuple #[v1,v2])∧R1 w' v1∧R2 w' v2∧Below w.heap.size w w'
def mp (w:World) (q:Rat) (e:Ending) (w':World):Prop:=∃v,e=.returned v∧PV w' v q∧Below w.heap.size w w'
def RetPE (w:World) (q:Rat) (err:Int) (e:Ending) (w':World):Prop:=∃v,e=.returned (.tuple #[v,.int .i64 err])∧PV w' v q∧Below w.heap.size w w'
def fj (w:World) (v:Value) (e:Ending) (w':World):Prop:=e=.returned v∧Below w.heap.size w w'
theorem bh {w:World} {a:Addr} {v u:Value} {p:Addr} (h:w.cell? a=some v) (hne:a.block≠p.block):(w.setCell p u).cell? a=some v:=by
 rw[World.cell?_setCell_other _ _ _ _ (by intro e;subst e;exact hne rfl)];exact h
theorem dh {w:World} {a:Addr} {v:Value} (h:w.cell? a=some v) (o:Obj):(w.alloc o).cell? a=some v:=by
 rw[World.cell?_alloc_lt _ _ _ (jw h)];exact h
theorem ah {w w':World} {a:Addr} {v:Value} (h:w.cell? a=some v) (hb:Below w.heap.size w w'):w'.cell? a=some v:=by
 rw[hb.cell (p:=a) (jw h)];exact h
theorem ar {w W W':World} (h:Below w.heap.size w W) (hb:Below W.heap.size W W'):Below w.heap.size w W':=Below.trans h (hb.mono (Below.size h))
theorem de (w:World):Below w.heap.size w w.drew:=(Below.refl _ _).drew
def SzP (K:Nat) (q:Rat):Prop:=q.num.natAbs < 18446744073709551616 ^ K∧q.den < 18446744073709551616 ^ K
def Fit (q:Rat):Prop:=SzQ 134217728 q
theorem SzQ.p {K:Nat} {q:Rat} (h:SzQ K q):SzP K q:=
 ⟨Nat.lt_of_lt_of_le h.1 (Nat.pow_le_pow_left (by omega) K),Nat.lt_of_lt_of_le h.2 (Nat.pow_le_pow_left (by omega) K)⟩
theorem Fit.p {q:Rat} (h:Fit q):SzP 134217728 q:=SzQ.p h
theorem SzQ.fit {K:Nat} {q:Rat} (h:SzQ K q) (hK:K≤134217728:=by omega):Fit q:=h.mono hK
theorem ji {K L a b:Nat} (ha:a < 18446744073709551616 ^ K) (hb:b < 18446744073709551616 ^ L):a * b < 18446744073709551616 ^ (K + L):=by
 rw[Nat.pow_add]
 rcases Nat.eq_zero_or_pos b with h|h
 ·subst h;exact Nat.mul_pos (Nat.pow_pos (by omega)) (Nat.pow_pos (by omega))
 ·exact Nat.lt_of_lt_of_le (Nat.mul_lt_mul_of_pos_right ha h) (Nat.mul_le_mul_left _ (Nat.le_of_lt hb))
theorem pow_add_ltP {K a b:Nat} (ha:a < 18446744073709551616 ^ K) (hb:b < 18446744073709551616 ^ K):a + b < 18446744073709551616 ^ (K + 1):=by
 have:0 < 18446744073709551616 ^ K:=Nat.pow_pos (by omega)
 rw[Nat.pow_succ]
 omega
theorem Bx.a0 {w:World} {g:Nat} {t:TypeId} {a0:Value} {l:List Value} (h:Bx w g t (a0 ::l).toArray):w.cell? ⟨g,0,none⟩=some a0:=h.at 0 rfl
theorem Bx.a1 {w:World} {g:Nat} {t:TypeId} {a0:Value} {a1:Value} {l:List Value} (h:Bx w g t (a0 ::a1 ::l).toArray):w.cell? ⟨g,1,none⟩=some a1:=h.at 1 rfl
theorem Bx.a2 {w:World} {g:Nat} {t:TypeId} {a0:Value} {a1:Value} {a2:Value} {l:List Value} (h:Bx w g t (a0 ::a1 ::a2 ::l).toArray):w.cell? ⟨g,2,none⟩=some a2:=h.at 2 rfl
theorem Bx.a3 {w:World} {g:Nat} {t:TypeId} {a0:Value} {a1:Value} {a2:Value} {a3:Value} {l:List Value} (h:Bx w g t (a0 ::a1 ::a2 ::a3 ::l).toArray):w.cell? ⟨g,3,none⟩=some a3:=h.at 3 rfl
theorem Bx.a4 {w:World} {g:Nat} {t:TypeId} {a0:Value} {a1:Value} {a2:Value} {a3:Value} {a4:Value} {l:List Value} (h:Bx w g t (a0 ::a1 ::a2 ::a3 ::a4 ::l).toArray):w.cell? ⟨g,4,none⟩=some a4:=h.at 4 rfl
theorem Bx.a5 {w:World} {g:Nat} {t:TypeId} {a0:Value} {a1:Value} {a2:Value} {a3:Value} {a4:Value} {a5:Value} {l:List Value} (h:Bx w g t (a0 ::a1 ::a2 ::a3 ::a4 ::a5 ::l).toArray):w.cell? ⟨g,5,none⟩=some a5:=h.at 5 rfl
theorem Bx.a6 {w:World} {g:Nat} {t:TypeId} {a0:Value} {a1:Value} {a2:Value} {a3:Value} {a4:Value} {a5:Value} {a6:Value} {l:List Value} (h:Bx w g t (a0 ::a1 ::a2 ::a3 ::a4 ::a5 ::a6 ::l).toArray):w.cell? ⟨g,6,none⟩=some a6:=h.at 6 rfl
theorem Bx.a7 {w:World} {g:Nat} {t:TypeId} {a0:Value} {a1:Value} {a2:Value} {a3:Value} {a4:Value} {a5:Value} {a6:Value} {a7:Value} {l:List Value} (h:Bx w g t (a0 ::a1 ::a2 ::a3 ::a4 ::a5 ::a6 ::a7 ::l).toArray):w.cell? ⟨g,7,none⟩=some a7:=h.at 7 rfl
theorem Bx.a8 {w:World} {g:Nat} {t:TypeId} {a0:Value} {a1:Value} {a2:Value} {a3:Value} {a4:Value} {a5:Value} {a6:Value} {a7:Value} {a8:Value} {l:List Value} (h:Bx w g t (a0 ::a1 ::a2 ::a3 ::a4 ::a5 ::a6 ::a7 ::a8 ::l).toArray):w.cell? ⟨g,8,none⟩=some a8:=h.at 8 rfl
class Mv (A:Prop) (w w':World) (B:outParam Prop):Prop where
  mv:Below w.heap.size w w'→A→B
class Mk (A:Prop) (w w':World) (B:outParam Prop):Prop where
  mv:aw w w'→A→B
class MvS (A:Prop) (w w':World) (B:outParam Prop):Prop where
  mv:Below w.heap.size w w'→B→A
class MkS (A:Prop) (w w':World) (B:outParam Prop):Prop where
  mv:aw w w'→B→A
section
variable {w w':World}
instance {g:Nat} {t:TypeId} {c:Array Value}:Mv (Bx w g t c) w w' (Bx w' g t c):=⟨fun hb h=>h.mono hb⟩
instance {v:Value} {q:Rat}:Mv (PV w v q) w w' (PV w' v q):=⟨fun hb h=>h.mono hb⟩
instance {v:Value} {q:Rat}:Mv (RV w v q) w w' (RV w' v q):=⟨fun hb h=>h.mono hb⟩
instance {v:Value} {q:Rat}:Mk (PV w v q) w w' (PV w' v q):=⟨fun hb h=>h.keep hb⟩
instance {v:Value} {q:Rat}:Mk (RV w v q) w w' (RV w' v q):=⟨fun hb h=>h.keep hb⟩
instance (priority:=low) {G:Prop}:MvS G w w' G:=⟨fun _ h=>h⟩
instance (priority:=low) {G:Prop}:MkS G w w' G:=⟨fun _ h=>h⟩
instance {A B X Y:Prop} [Mv A w w' B] [MvS X w w' Y]:MvS (A→X) w w' (B→Y):=⟨fun hb h a=>MvS.mv hb (h (Mv.mv hb a))⟩
instance {A B X Y:Prop} [Mk A w w' B] [MkS X w w' Y]:MkS (A→X) w w' (B→Y):=⟨fun hb h a=>MkS.mv hb (h (Mk.mv hb a))⟩
theorem mo {X Y:Prop} [MvS X w w' Y] (hb:Below w.heap.size w w') (h:Y):X:=MvS.mv hb h
theorem ke {X Y:Prop} [MkS X w w' Y] (hk:aw w w') (h:Y):X:=MkS.mv hk h
theorem mS {u:World} {X Y:Prop} [MvS X w w' Y] (hs:Below u.heap.size u w) (hb:Below w.heap.size w w') (h:Below u.heap.size u w'→Y):X:=MvS.mv hb (h (Below.trans hs (hb.mono (Below.size hs))))
end
theorem Bx.k1l {w:World} {g:Nat} {t:TypeId} {a0:Value} {r:List Value} {G:Prop} (h:Bx w g t (a0 ::r).toArray) (k:w.cell? ⟨g,0,none⟩=some a0→g < w.heap.size→G):G:=k (h.at 0 rfl) h.lt
theorem Bx.k1f {w:World} {g:Nat} {t:TypeId} {a0:Value} {r:List Value} {G:Prop} (h:Bx w g t (a0 ::r).toArray) (k:w.cell? ⟨g,0,none⟩=some a0→(∀i:Nat,w.frozen? ⟨g,i,none⟩=false)→G):G:=k (h.at 0 rfl) h.free
theorem Bx.k1fl {w:World} {g:Nat} {t:TypeId} {a0:Value} {r:List Value} {G:Prop} (h:Bx w g t (a0 ::r).toArray) (k:w.cell? ⟨g,0,none⟩=some a0→(∀i:Nat,w.frozen? ⟨g,i,none⟩=false)→g < w.heap.size→G):G:=k (h.at 0 rfl) h.free h.lt
theorem Bx.k2 {w:World} {g:Nat} {t:TypeId} {a0 a1:Value} {r:List Value} {G:Prop} (h:Bx w g t (a0 ::a1 ::r).toArray) (k:w.cell? ⟨g,0,none⟩=some a0→w.cell? ⟨g,1,none⟩=some a1→G):G:=k (h.at 0 rfl) (h.at 1 rfl)
theorem Bx.k2l {w:World} {g:Nat} {t:TypeId} {a0 a1:Value} {r:List Value} {G:Prop} (h:Bx w g t (a0 ::a1 ::r).toArray) (k:w.cell? ⟨g,0,none⟩=some a0→w.cell? ⟨g,1,none⟩=some a1→g < w.heap.size→G):G:=k (h.at 0 rfl) (h.at 1 rfl) h.lt
theorem Bx.k2f {w:World} {g:Nat} {t:TypeId} {a0 a1:Value} {r:List Value} {G:Prop} (h:Bx w g t (a0 ::a1 ::r).toArray) (k:w.cell? ⟨g,0,none⟩=some a0→w.cell? ⟨g,1,none⟩=some a1→(∀i:Nat,w.frozen? ⟨g,i,none⟩=false)→G):G:=k (h.at 0 rfl) (h.at 1 rfl) h.free
theorem Bx.k2fl {w:World} {g:Nat} {t:TypeId} {a0 a1:Value} {r:List Value} {G:Prop} (h:Bx w g t (a0 ::a1 ::r).toArray) (k:w.cell? ⟨g,0,none⟩=some a0→w.cell? ⟨g,1,none⟩=some a1→(∀i:Nat,w.frozen? ⟨g,i,none⟩=false)→g < w.heap.size→G):G:=k (h.at 0 rfl) (h.at 1 rfl) h.free h.lt
theorem Bx.k3 {w:World} {g:Nat} {t:TypeId} {a0 a1 a2:Value} {r:List Value} {G:Prop} (h:Bx w g t (a0 ::a1 ::a2 ::r).toArray) (k:w.cell? ⟨g,0,none⟩=some a0→w.cell? ⟨g,1,none⟩=some a1→w.cell? ⟨g,2,none⟩=some a2→G):G:=k (h.at 0 rfl) (h.at 1 rfl) (h.at 2 rfl)
theorem Bx.k3l {w:World} {g:Nat} {t:TypeId} {a0 a1 a2:Value} {r:List Value} {G:Prop} (h:Bx w g t (a0 ::a1 ::a2 ::r).toArray) (k:w.cell? ⟨g,0,none⟩=some a0→w.cell? ⟨g,1,none⟩=some a1→w.cell? ⟨g,2,none⟩=some a2→g < w.heap.size→G):G:=k (h.at 0 rfl) (h.at 1 rfl) (h.at 2 rfl) h.lt
theorem Bx.k3f {w:World} {g:Nat} {t:TypeId} {a0 a1 a2:Value} {r:List Value} {G:Prop} (h:Bx w g t (a0 ::a1 ::a2 ::r).toArray) (k:w.cell? ⟨g,0,none⟩=some a0→w.cell? ⟨g,1,none⟩=some a1→w.cell? ⟨g,2,none⟩=some a2→(∀i:Nat,w.frozen? ⟨g,i,none⟩=false)→G):G:=k (h.at 0 rfl) (h.at 1 rfl) (h.at 2 rfl) h.free
theorem Bx.k3fl {w:World} {g:Nat} {t:TypeId} {a0 a1 a2:Value} {r:List Value} {G:Prop} (h:Bx w g t (a0 ::a1 ::a2 ::r).toArray) (k:w.cell? ⟨g,0,none⟩=some a0→w.cell? ⟨g,1,none⟩=some a1→w.cell? ⟨g,2,none⟩=some a2→(∀i:Nat,w.frozen? ⟨g,i,none⟩=false)→g < w.heap.size→G):G:=k (h.at 0 rfl) (h.at 1 rfl) (h.at 2 rfl) h.free h.lt
theorem Bx.k4 {w:World} {g:Nat} {t:TypeId} {a0 a1 a2 a3:Value} {r:List Value} {G:Prop} (h:Bx w g t (a0 ::a1 ::a2 ::a3 ::r).toArray) (k:w.cell? ⟨g,0,none⟩=some a0→w.cell? ⟨g,1,none⟩=some a1→w.cell? ⟨g,2,none⟩=some a2→w.cell? ⟨g,3,none⟩=some a3→G):G:=k (h.at 0 rfl) (h.at 1 rfl) (h.at 2 rfl) (h.at 3 rfl)
theorem Bx.k4l {w:World} {g:Nat} {t:TypeId} {a0 a1 a2 a3:Value} {r:List Value} {G:Prop} (h:Bx w g t (a0 ::a1 ::a2 ::a3 ::r).toArray) (k:w.cell? ⟨g,0,none⟩=some a0→w.cell? ⟨g,1,none⟩=some a1→w.cell? ⟨g,2,none⟩=some a2→w.cell? ⟨g,3,none⟩=some a3→g < w.heap.size→G):G:=k (h.at 0 rfl) (h.at 1 rfl) (h.at 2 rfl) (h.at 3 rfl) h.lt
theorem Bx.k4f {w:World} {g:Nat} {t:TypeId} {a0 a1 a2 a3:Value} {r:List Value} {G:Prop} (h:Bx w g t (a0 ::a1 ::a2 ::a3 ::r).toArray) (k:w.cell? ⟨g,0,none⟩=some a0→w.cell? ⟨g,1,none⟩=some a1→w.cell? ⟨g,2,none⟩=some a2→w.cell? ⟨g,3,none⟩=some a3→(∀i:Nat,w.frozen? ⟨g,i,none⟩=false)→G):G:=k (h.at 0 rfl) (h.at 1 rfl) (h.at 2 rfl) (h.at 3 rfl) h.free
theorem Bx.k4fl {w:World} {g:Nat} {t:TypeId} {a0 a1 a2 a3:Value} {r:List Value} {G:Prop} (h:Bx w g t (a0 ::a1 ::a2 ::a3 ::r).toArray) (k:w.cell? ⟨g,0,none⟩=some a0→w.cell? ⟨g,1,none⟩=some a1→w.cell? ⟨g,2,none⟩=some a2→w.cell? ⟨g,3,none⟩=some a3→(∀i:Nat,w.frozen? ⟨g,i,none⟩=false)→g < w.heap.size→G):G:=k (h.at 0 rfl) (h.at 1 rfl) (h.at 2 rfl) (h.at 3 rfl) h.free h.lt
theorem ae {p:Prop} (h:p):Hid p:=Lib.hid h
theorem ag (n:Nat):n≤n:=Nat.le_refl n
end Go.Proofs.YtidmjdmmpajooaaGreat
namespace Go.Proofs.YtidmjdmmpajooaaGreat
open Go.RowKit Dg
structure Stopped (p:Prop):Prop where
 out:p
theorem wpList.stop {P:Program} {ops:Array Oper} {Q:Exit→Act→World→Prop} {l:List Oper} {a:Act} {w:World} (h:Stopped (wpList P ops Q l a w)):wpList P ops Q l a w:=h.out
end Go.Proofs.YtidmjdmmpajooaaGreat
namespace Go.Proofs.YtidmjdmmpajooaaGreat
section
variable {p:Rat} (h0:0≤p) (h1:p≤1)
include h0 h1
end
end Go.Proofs.YtidmjdmmpajooaaGreat
namespace Go.Proofs.YtidmjdmmpajooaaGreat
open Go.RowKit Dg
def si (k:IntKind) (B:Nat) (w:World) (x:Nat) (e:Ending) (w':World):Prop:=∃v,e=.returned v∧ck k B w' v x∧Below w.heap.size w w'∧qk w.heap.size v
end Go.Proofs.YtidmjdmmpajooaaGreat
namespace Go.Proofs.YtidmjdmmpajooaaGreat
open Go.RowKit Dg
def gn (x y:Nat):Int:=if x < y then -1 else if y < x then 1 else 0
def Quiet (w:World) (v:Value) (e:Ending) (w':World):Prop:=∃q,e=.returned v∧w'=w.drewN q
def RetNatD (k:IntKind) (B:Nat) (w:World) (x r:Nat) (e:Ending) (w':World):Prop:=∃v,e=.returned (.tuple #[v,.int k (r:Int)])∧ck k B w' v x∧Below w.heap.size w w'
end Go.Proofs.YtidmjdmmpajooaaGreat
namespace Go.Proofs.YtidmjdmmpajooaaGreat
open Go.RowKit Dg
theorem kh:(Tryz.prog.info? 95).map (fun i=>(i.zero,i.size,i.bytes))=some (some (.int .u64 0),1,8):=by kernel_rfl
def bitsRen:Go.Shelf.Ren:=⟨fun|25=>72|26=>77|n=>n,fun|22=>95|n=>n,fun|n=>n⟩
theorem lays25:Lays7.n25 Tryz.prog bitsRen:={mixed:=by kernel_rfl,f25:=Tryz.func72.trans (congrArg some (by kernel_rfl)),t22:=Tryz.underlying95,a22:=Tryz.isAgg95,z22:=Tryz.sizeOf95,v22:=Tryz.zeroValue95,i22:=by kernel_rfl}
theorem lays26:Lays7.n26 Tryz.prog bitsRen:={mixed:=by kernel_rfl,f26:=Tryz.func77.trans (congrArg some (by kernel_rfl)),t22:=Tryz.underlying95,a22:=Tryz.isAgg95,z22:=Tryz.sizeOf95,v22:=Tryz.zeroValue95,i22:=by kernel_rfl}
theorem add64 (x y c:Int) (hx:0≤x) (hy:0≤y) (hc0:0≤c) (hc:c≤1) (w:World):(callFunc 72 #[.int .u64 x,.int .u64 y,.int .u64 c]).run Tryz.prog w=
  .ok (.value (.tuple #[.int .u64 ((x + y + c) % 18446744073709551616),.int .u64 ((x + y + c) / 18446744073709551616)])) w:=by
 obtain⟨x,rfl⟩:=Int.eq_ofNat_of_zero_le hx
 obtain⟨y,rfl⟩:=Int.eq_ofNat_of_zero_le hy
 obtain⟨c,rfl⟩:=Int.eq_ofNat_of_zero_le hc0
 refine (Any7.bits_Add64 lays25 x y c (by omega) w).trans ?_
 congr 5<;>omega
def bor (x y b:Int):Int:=if x < y + b then 1 else 0
theorem sub64 (x y b:Int) (hx:0≤x) (hy:0≤y) (hy':y < 18446744073709551616) (hb0:0≤b) (hb:b≤1) (w:World):(callFunc 77 #[.int .u64 x,.int .u64 y,.int .u64 b]).run Tryz.prog w=
  .ok (.value (.tuple #[.int .u64 ((x - y - b) % 18446744073709551616),.int .u64 (bor x y b)])) w:=by
 obtain⟨x,rfl⟩:=Int.eq_ofNat_of_zero_le hx
 obtain⟨y,rfl⟩:=Int.eq_ofNat_of_zero_le hy
 obtain⟨b,rfl⟩:=Int.eq_ofNat_of_zero_le hb0
 have e1:(((x + 18446744073709551616 - y - b) % 18446744073709551616:Nat):Int)=((x:Int) - y - b) % 18446744073709551616:=by omega
 have e2:((if x < y + b then 1 else 0:Nat):Int)=bor x y b:=by unfold bor;split<;>split<;>omega
 rw[←e1,←e2]
 exact Any7.bits_Sub64 lays26 x y b (by omega) w
theorem uy (x y:Int) (hx:0≤x) (hy:0≤y) (w:World):(callFunc 72 #[.int .u64 x,.int .u64 y,.int .u64 0]).run Tryz.prog w=
  .ok (.value (.tuple #[.int .u64 ((x + y) % 18446744073709551616),.int .u64 ((x + y) / 18446744073709551616)])) w:=by
 simpa using add64 x y 0 hx hy (Int.le_refl 0) (by decide) w
def CutL (ao:Option Addr) (n c:Nat) (l:List Nat) (w:World) (e:Ending) (w':World):Prop:=
 ∃m,m≤n∧bi 18446744073709551616 (l.take m)∧val 18446744073709551616 (l.take m)=val 18446744073709551616 l∧e=.returned (.slice ao m c)∧w=w'
theorem gw (ao:Option Addr) (n c:Nat) (l:List Nat) (w:World) (hs:Sl .u64 w ao n c l) (hd:cj 18446744073709551616 l):
  Calls Tryz.prog 73 #[.slice ao n c] w (CutL ao n c l w):=by
 have hn:=hs.cap
 have hcM:=hs.max
 have HS:=Lib.hid hs;clear hs
 have HD:=Lib.hid hd;clear hd
 go_enter Tryz.func73,Tryz.ntmps73
 go_wp2
 go_loopg [0] n (fun g s wr=>∃k:Nat,k≤g∧k≤n∧(∀i,k≤i→l[i]?.getD 0=0)∧s=.slice ao k c∧wr=w)
 case atStart=>exact⟨n,Nat.le_refl _,by omega,by intro i hi;rw[List.getElem?_eq_none (by have:=HS.out.len;omega)];rfl,rfl,rfl⟩
 case round=>
  obtain⟨k,hkg,hk,hz,rfl,rfl⟩:=hrel
  have HZ:=Lib.hid hz;clear hz
  by_cases h0:k=0
  ·subst h0
   go_wp2
   go_ret
   exact⟨0,by omega,tw HD.out 0 (by omega) (by omega),jb2 _ _ _ HZ.out (by omega),rfl,rfl⟩
  ·obtain⟨j,rfl⟩:∃j,k=j + 1:=⟨k-1,by omega⟩
   obtain⟨b,o,rfl,hcell⟩:=HS.out.at (i:=j) (by omega)
   by_cases hd:l[j]?.getD 0=0
   ·rw[hd] at hcell
    go_wp2
    go_roundg (gk - 1)
    case measure=>omega
    case rel=>exact⟨j,by omega,by omega,by intro i hi;by_cases e:i=j;(· rw[e];exact hd);(· exact HZ.out i (by omega)),by simp,rfl⟩
   ·have hd':((l[j]?.getD 0:Nat):Int)≠0:=by omega
    go_wp2
    go_ret
    exact⟨j+1,by omega,tw HD.out _ (by have:=HS.out.len;omega) (by intro;simpa using hd),jb2 _ _ _ HZ.out (by have:=HS.out.len;omega),by simp,rfl⟩
def RetL (w:World) (x:Nat) (e:Ending) (w':World):Prop:=∃v,e=.returned v∧ck .u64 18446744073709551616 w' v x∧Below w.heap.size w w'
theorem qx (n:Nat) (w:World) (h1:n < 18446744073709551616):Calls Tryz.prog 74 #[.int .u64 (n:Int)] w (RetL w n):=by
 go_enter Tryz.func74,Tryz.ntmps74
 go_wp2_with fail
 have hb:Blk .u64 95 (w.alloc (Obj.cells #[Value.int IntKind.u64 ↑n] 95)) w.heap.size [n]:=Blk.new .u64 95 w [n]
 refine (gw _ 1 1 [n] _ (hb.sl (by simp)) ?_).mono ?_
 ·intro d hd;simp only[List.mem_cons,List.mem_nil_iff,or_false] at hd;omega
 rintro e w' ⟨m,hm,hc,hv,rfl,rfl⟩
 go_wp2
 go_ret
 refine⟨_,rfl,⟨_,_,_,_,rfl,(hb.sl (by simp)).take m hm,hc,?_⟩,(Below.refl _ _).alloc (Nat.le_refl _) _⟩
 rw[hv,ns]
theorem jf (v:Value) (x:Nat) (w:World) (h:ck .u64 18446744073709551616 w v x):Calls Tryz.prog 70 #[v] w fun e w'=>e=.returned (.bool (decide (x=1)))∧w=w':=by
 obtain⟨ao,n,c,l,rfl,hs,hc,rfl⟩:=h
 have hb:n≤9223372036854775807:=by have:=hs.cap;have:=hs.max;omega
 by_cases h1:n=1
 ·subst h1
  obtain⟨d,rfl⟩:=List.length_eq_one_iff.1 hs.len
  rw[ns]
  obtain⟨b,o,rfl,hcell⟩:=hs.at (i:=0) (by omega)
  simp only[Nat.add_zero,List.getElem?_cons_zero,Option.getD_some] at hcell
  clear hs hc
  by_cases hd:d=1
  ·subst hd
   go_enter Tryz.func70,Tryz.ntmps70
   go_wp2
   go_ret
   exact⟨rfl,rfl⟩
  ·have hd':((d:Int) == 1)=false:=by rw[beq_eq_false_iff_ne];omega
   rw[decide_eq_false hd]
   go_enter Tryz.func70,Tryz.ntmps70
   go_wp2
   go_ret
   exact⟨rfl,rfl⟩
 ·have h1':((n:Int) == 1)=false:=by rw[beq_eq_false_iff_ne];omega
  have hne:val 18446744073709551616 l≠1:=by
   intro e
   have:=hc.inj (by omega) (m:=[1]) ⟨by intro d hd;simp at hd;omega,by simp⟩ (by rw[e];rfl)
   have h2:=hs.len
   rw[this] at h2
   simp at h2
   omega
  rw[decide_eq_false hne]
  clear hs hc hne h1
  go_enter Tryz.func70,Tryz.ntmps70
  go_wp2
  go_ret
  exact⟨rfl,rfl⟩
theorem mj (ao bo:Option Addr) (n c m d:Nat) (l l':List Nat) (w:World) (hs:Sl .u64 w ao n c l) (hs':Sl .u64 w bo m d l') (hd:bi 18446744073709551616 l) (hd':bi 18446744073709551616 l'):
  Calls Tryz.prog 49 #[.slice ao n c,.slice bo m d] w (Quiet w (.int .i64 (gn (val 18446744073709551616 l) (val 18446744073709551616 l')))):=by
 have b1:n≤9223372036854775807:=by have:=hs.cap;have:=hs.max;omega
 have b2:m≤9223372036854775807:=by have:=hs'.cap;have:=hs'.max;omega
 have HS:=Lib.hid hs;clear hs
 have HS':=Lib.hid hs';clear hs'
 have HD:=Lib.hid hd;clear hd
 have HD':=Lib.hid hd';clear hd'
 rcases Nat.lt_trichotomy n m with h|h|h
 ·have h':¬ (n:Int)=m:=by omega
  have hfin:gn (val 18446744073709551616 l) (val 18446744073709551616 l')= -1:=by
   have:=HD.out.lt_of_length (by omega) HD'.out (by rw[HS.out.len,HS'.out.len];exact h)
   unfold gn;rw[if_pos this]
  rw[hfin];clear hfin
  go_enter Tryz.func49,Tryz.ntmps49
  go_wp2
  go_ret
  exact⟨0,rfl,rfl⟩
 ·subst h
  have Hr:∀r,r=gn (val 18446744073709551616 l) (val 18446744073709551616 l')→gn (val 18446744073709551616 l) (val 18446744073709551616 l')=r:=fun r h=>h.symm
  generalize hR:gn (val 18446744073709551616 l) (val 18446744073709551616 l')=R
  have HR:=Lib.hid hR;clear hR Hr
  go_enter Tryz.func49,Tryz.ntmps49
  go_wp2
  go_loopw [5] (fun iv wr=>∃k:Nat,k≤n∧iv=.int .i64 ((k:Int) - 1)∧l.drop k=l'.drop k∧∃q,wr=w.drewN q) (fun iv _=>(intOf iv + 1).toNat)
  case atStart=>exact⟨n,Nat.le_refl _,rfl,by rw[List.drop_of_length_le (by rw[HS.out.len];omega),List.drop_of_length_le (by rw[HS'.out.len];omega)],0,rfl⟩
  case round=>
   obtain⟨k,hk,rfl,hdrop,q,rfl⟩:=hrel
   have HDR:=Lib.hid hdrop;clear hdrop
   cases k with
   | zero=>
    rw[show ((0:Nat):Int) - 1= -1 from rfl]
    go_wp2
    go_ret
    refine⟨q,?_,rfl⟩
    have:=HDR.out
    rw[List.drop_zero,List.drop_zero] at this
    rw[←HR.out,this]
    unfold gn
    rw[if_neg (by omega),if_neg (by omega)]
    rfl
   | succ k=>
    obtain⟨b1,o1,rfl,hc1⟩:=HS.out.at (i:=k) (by omega)
    obtain⟨b2,o2,rfl,hc2⟩:=HS'.out.at (i:=k) (by omega)
    have hc1':∀q,(w.drewN q).cell? ⟨b1,o1 + k,none⟩=some (.int .u64 ((l[k]?.getD 0:Nat):Int)):=fun q=>hc1
    have hc2':∀q,(w.drewN q).cell? ⟨b2,o2 + k,none⟩=some (.int .u64 ((l'[k]?.getD 0:Nat):Int)):=fun q=>hc2
    rw[show ((k + 1:Nat):Int) - 1=(k:Int) from by omega]
    have d1:=HD.out.1.get (by omega) k
    have d2:=HD'.out.1.get (by omega) k
    have L1:=HS.out.len
    have L2:=HS'.out.len
    have HL1:=Lib.hid L1
    have HL2:=Lib.hid L2
    clear L1 L2
    rcases Nat.lt_trichotomy (l[k]?.getD 0) (l'[k]?.getD 0) with hlt|heq|hgt
    ·have hfin:R= -1:=by
      have:=py (by omega) HD.out.1 HD'.out.1 (by rw[HL1.out,HL2.out]) k (by rw[HL1.out];omega) HDR.out hlt
      rw[←HR.out];unfold gn;rw[if_pos this]
     subst hfin
     have hlt':((l[k]?.getD 0:Nat):Int) < ((l'[k]?.getD 0:Nat):Int):=by omega
     go_wp2
     go_quiet (fail)
     go_wp2
     go_ret
     exact⟨q + nq,rfl,World.drewN_drewN ..⟩
    ·have he1:(((l[k]?.getD 0:Nat):Int) == ((l'[k]?.getD 0:Nat):Int))=true:=by rw[beq_iff_eq];omega
     have hdr:=jc7 (by rw[HL1.out];omega) (by rw[HL2.out];omega) heq HDR.out
     have HDR':=Lib.hid hdr
     have HEQ:=Lib.hid heq
     clear hdr heq he1
     have hge1:((l'[k]?.getD 0:Nat):Int)≤((l[k]?.getD 0:Nat):Int):=by have:=HEQ.out;omega
     have hge2:((l[k]?.getD 0:Nat):Int)≤((l'[k]?.getD 0:Nat):Int):=by have:=HEQ.out;omega
     go_wp2
     go_quiet (fail)
     go_wp2
     go_quiet (fail)
     go_wp2
     go_roundw
     case rel=>exact⟨k,by omega,rfl,HDR'.out,_,(by first|rfl|(simp only[World.drewN_drewN];rfl))⟩
     all_goals first|(simp[intOf];done)|(simp[intOf];omega)
    ·have hfin:R=1:=by
      have:=py (by omega) HD'.out.1 HD.out.1 (by rw[HL1.out,HL2.out]) k (by rw[HL2.out];omega) HDR.out.symm hgt
      rw[←HR.out];unfold gn;rw[if_neg (by omega),if_pos this]
     subst hfin
     have hge1:((l'[k]?.getD 0:Nat):Int)≤((l[k]?.getD 0:Nat):Int):=by omega
     have hgt':((l'[k]?.getD 0:Nat):Int) < ((l[k]?.getD 0:Nat):Int):=by omega
     go_wp2
     go_quiet (fail)
     go_wp2
     go_quiet (fail)
     go_wp2
     go_ret
     exact⟨_,rfl,(by first|rfl|(simp only[World.drewN_drewN];rfl))⟩
 ·have h':¬ (n:Int)=m:=by omega
  have hfin:gn (val 18446744073709551616 l) (val 18446744073709551616 l')=1:=by
   have:=HD'.out.lt_of_length (by omega) HD.out (by rw[HS.out.len,HS'.out.len];exact h)
   unfold gn;rw[if_neg (by omega),if_pos this]
  rw[hfin];clear hfin
  go_enter Tryz.func49,Tryz.ntmps49
  go_wp2
  go_ret
  exact⟨0,rfl,rfl⟩
end Go.Proofs.YtidmjdmmpajooaaGreat
