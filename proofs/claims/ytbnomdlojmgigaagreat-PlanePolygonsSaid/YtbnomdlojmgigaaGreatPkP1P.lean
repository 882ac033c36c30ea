/-
  How numbers lie in memory, second part: a block with room behind the numbers ('BlkC'), and a change of one block alone ('Only').
-/
import Derived.Test.YtbnomdlojmgigaaGreatPkP0P
import Derived.Deep.AppendLies
import Derived.Handy
set_option linter.unusedSimpArgs false
set_option linter.unusedVariables false
namespace Go.Proofs.YtbnomdlojmgigaaGreat
open Go.RowKit Dg
structure Only (g:Nat) (w w':World):Prop where
 os:w'.os=w.os
 tape:w'.tape=w.tape
 output:w'.output=w.output
 size:w.heap.size≤w'.heap.size
 block:∀k,k < w.heap.size→k≠g→w'.heap[k]?=w.heap[k]?
theorem Only.refl (g:Nat) (w:World):Only g w w:=⟨rfl,rfl,rfl,Nat.le_refl _,fun _ _ _=>rfl⟩
theorem Only.trans {g:Nat} {a b c:World} (h:Only g a b) (k:Only g b c):Only g a c:=
 ⟨k.os.trans h.os,k.tape.trans h.tape,k.output.trans h.output,Nat.le_trans h.size k.size,fun i hi hg=>(k.block i (Nat.lt_of_lt_of_le hi h.size) hg).trans (h.block i hi hg)⟩
theorem Only.of_below {g:Nat} {w w':World} (h:Below w.heap.size w w'):Only g w w':=⟨h.os,h.tape,h.output,h.size,fun k hk _=>h.block k hk⟩
theorem Only.setCell {g:Nat} {a w:World} (h:Only g a w) (j:Nat) (u:Value):Only g a (w.setCell ⟨g,j,none⟩ u):=
 h.trans ⟨rfl,rfl,rfl,by simp[World.setCell],fun k _ hg=>Below.heap_setCell _ _ _ _ hg⟩
theorem Only.below {g B:Nat} {w w':World} (h:Only g w w') (hB:B≤g) (hB':B≤w.heap.size):Below B w w':=⟨h.os,h.tape,h.output,h.size,fun k hk=>h.block k (by omega) (by omega)⟩
theorem Only.drawN {g:Nat} {a w:World} (h:Only g a w) (n:Nat):Only g a (w.drewN n):=⟨h.os,h.tape,h.output,h.size,h.block⟩
theorem Only.drew {g:Nat} {a w:World} (h:Only g a w):Only g a w.drew:=⟨h.os,h.tape,h.output,h.size,h.block⟩
theorem cell_only {g:Nat} {w w':World} (h:Only g w w') {p:Addr} (hp:p.block < w.heap.size) (hg:p.block≠g):w'.cell? p=w.cell? p:=World.cell?_of_block (w:=w) (h.block p.block hp hg)
theorem Sl.only {k:IntKind} {w w':World} {ao:Option Addr} {n c:Nat} {l:List Nat} (h:Sl k w ao n c l) {g:Nat} (ha:ry g (.slice ao n c)) (ho:Only g w w'):Sl k w' ao n c l:=by
 refine⟨h.len,h.cap,h.max,?_,h.nil,fun a e hn=>?_⟩
 rotate_left
 ·obtain⟨cs,fr,h1⟩:=h.ty a e hn
  exact⟨cs,fr,(ho.block a.block (lt_of_block h1) (ha a n c (by rw[e]) hn)).trans h1⟩
 intro i hi
 obtain⟨b,o,e,hc⟩:=h.cells i hi
 refine⟨b,o,e,fun j hj=>?_⟩
 have h1:=hc j hj
 have h2:=jw h1
 subst e
 have h3:=ha ⟨b,o,none⟩ n c rfl (by have:=h.len;omega)
 rw[cell_only ho (p:=⟨b,o + j,none⟩) h2 h3]
 exact h1
theorem ck.only {k:IntKind} {B:Nat} {w w':World} {v:Value} {x:Nat} (h:ck k B w v x) {g:Nat} (ha:ry g v) (ho:Only g w w'):ck k B w' v x:=by
 obtain⟨ao,n,c,l,e,hs,hc,hv⟩:=h
 subst e
 exact⟨ao,n,c,l,rfl,hs.only ha ho,hc,hv⟩
theorem Blk.only {k:IntKind} {e:TypeId} {w w':World} {g g':Nat} {l:List Nat} (h:Blk k e w g l) (ho:Only g' w w') (hg:g≠g'):Blk k e w' g l:=(ho.block g h.lt hg).trans h
def iz (k:IntKind) (e:TypeId) (w:World) (g:Nat) (l:List Nat) (r:List Value):Prop:=w.heap[g]?=some (.cells ((l.map fun x:Nat=>Value.int k (x:Int)) ++ r).toArray e (0,0))
theorem iz.lt {k:IntKind} {e:TypeId} {w:World} {g:Nat} {l:List Nat} {r:List Value} (h:iz k e w g l r):g < w.heap.size:=lt_of_block h
theorem iz.cell {k:IntKind} {e:TypeId} {w:World} {g:Nat} {l:List Nat} {r:List Value} (h:iz k e w g l r) {j:Nat} (hj:j < l.length):
  w.cell? ⟨g,j,none⟩=some (.int k ((l[j]?.getD 0:Nat):Int)):=by
 unfold iz at h
 simp only[World.cell?,h]
 simp[List.getElem?_append_left,hj]
theorem iz.free {k:IntKind} {e:TypeId} {w:World} {g:Nat} {l:List Nat} {r:List Value} (h:iz k e w g l r) (j:Nat):w.frozen? ⟨g,j,none⟩=false:=by
 unfold iz at h
 simp[World.frozen?,h]
theorem iz.set {k:IntKind} {e:TypeId} {w:World} {g:Nat} {l:List Nat} {r:List Value} (h:iz k e w g l r) (j x:Nat) (hj:j < l.length):iz k e (w.setCell ⟨g,j,none⟩ (.int k (x:Int))) g (l.set j x) r:=by
 unfold iz at h ⊢
 simp only[World.setCell,Array.getElem?_modify,↓reduceIte,h,Option.map_some]
 congr 2
 apply Array.ext'
 simp[List.set_append,hj,List.map_set]
theorem iz.below {k:IntKind} {e:TypeId} {w w':World} {g:Nat} {l:List Nat} {r:List Value} (h:iz k e w g l r) (hb:Below w.heap.size w w'):iz k e w' g l r:=(hb.block g h.lt).trans h
theorem iz.only {k:IntKind} {e:TypeId} {w w':World} {g g':Nat} {l:List Nat} {r:List Value} (h:iz k e w g l r) (hb:Only g' w w') (hg:g≠g'):iz k e w' g l r:=(hb.block g h.lt hg).trans h
theorem iz.drewN {k:IntKind} {e:TypeId} {w:World} {g:Nat} {l:List Nat} {r:List Value} (h:iz k e w g l r) (q:Nat):iz k e (w.drewN q) g l r:=h
theorem iz.sl {k:IntKind} {e:TypeId} {w:World} {g:Nat} {A o C:List Nat} {r:List Value} (h:iz k e w g (A ++ o ++ C) r) (c:Nat) (hc:o.length≤c) (hm:c≤9223372036854775807) (he:e=tyOf k:=by rfl):
  Sl k w (some ⟨g,A.length,none⟩) o.length c o:=
 ⟨rfl,hc,hm,fun i _=>⟨g,A.length,rfl,fun j hj=>by
  rw[h.cell (by simp;omega)]
  rw[List.append_assoc,List.getElem?_append_right (by omega),List.getElem?_append_left (by omega)]
  simp⟩,(fun e=>by cases e),(fun a e' _=>by cases e';exact⟨_,_,he ▸ h⟩)⟩
theorem set_mid (A o C:List Nat) (j x:Nat) (hj:j < o.length):(A ++ o ++ C).set (A.length + j) x=A ++ o.set j x ++ C:=by
 rw[List.append_assoc,List.set_append,if_neg (by omega),List.set_append,if_pos (by omega),List.append_assoc]
 congr 3
 omega
theorem get_mid (A o C:List Nat) (j:Nat) (hj:j < o.length):(A ++ o ++ C)[A.length + j]?.getD 0=o[j]?.getD 0:=by
 rw[List.append_assoc,List.getElem?_append_right (by omega),List.getElem?_append_left (by omega)]
 simp
theorem iz.of_owns {k:IntKind} {e:TypeId} {w:World} {base:Nat} {v:Value} {n:Nat} {l:List Nat} (h:w.ownsRow base e 1 v n (l.map fun x:Nat=>Value.int k (x:Int))) (hv:v≠.slice none 0 0∨0 < n):
  ∃g c r,v=.slice (some ⟨g,0,none⟩) n c∧base≤g∧iz k e w g l r∧n≤c∧c≤9223372036854775807∧l.length=n:=by
 have hl:=h.1
 rw[List.length_map,Nat.mul_one] at hl
 rcases h.2 with ⟨rfl,rfl⟩|⟨g,cap,cur,rfl,hg,hh,hn,hcap,hsz,htk⟩
 ·rcases hv with hv|hv
  ·exact absurd rfl hv
  ·omega
 ·refine⟨g,cap,cur.toList.drop n,rfl,hg,?_,hn,by simpa [maxLen] using hcap,hl⟩
  unfold iz
  rw[Nat.mul_one] at htk
  rw[hh,←htk,List.take_append_drop]
end Go.Proofs.YtbnomdlojmgigaaGreat
namespace Go.Proofs.YtbnomdlojmgigaaGreat
open Go.RowKit Dg
def TyB (t:TypeId) (w:World) (g:Nat):Prop:=∃cs fr,w.heap[g]?=some (.cells cs t fr)
theorem TyB.lt {t:TypeId} {w:World} {g:Nat} (h:TyB t w g):g < w.heap.size:=by
 obtain⟨cs,fr,h⟩:=h
 exact lt_of_block h
theorem TyB.mono {t:TypeId} {w w':World} {g:Nat} (h:TyB t w g) (hb:Below w.heap.size w w'):TyB t w' g:=by
 obtain⟨cs,fr,h1⟩:=h
 exact⟨cs,fr,(hb.block g (lt_of_block h1)).trans h1⟩
theorem TyB.store {t:TypeId} {w:World} {g:Nat} (h:TyB t w g) (p:Addr) (v:Value):TyB t (w.setCell p v) g:=by
 obtain⟨cs,fr,h1⟩:=h
 exact qu.store (n:=1) (ao:=some ⟨g,0,none⟩) (fun a e _=>by cases e;exact⟨cs,fr,h1⟩) p v _ rfl (by omega)
theorem TyB.new (t:TypeId) (w:World) (cs:Array Value):TyB t (w.alloc (.cells cs t)) w.heap.size:=⟨cs,(0,0),heap_alloc_new w _⟩
theorem TyB.ne {t t':TypeId} {w:World} {g g':Nat} (h:TyB t w g) (h':TyB t' w g') (hne:t≠t'):g≠g':=by
 rintro rfl
 obtain⟨cs,fr,h⟩:=h
 obtain⟨cs',fr',h'⟩:=h'
 rw[h] at h'
 injection h' with h'
 injection h' with _ ht
 exact hne ht
theorem qu.ne {t T:TypeId} {w:World} {ao:Option Addr} {n g:Nat} (h:qu t w ao n) (hg:TyB T w g) (hne:T≠t) {a:Addr} (e:ao=some a) (hn:0 < n):a.block≠g:=by
 obtain⟨cs,fr,h1⟩:=h a e hn
 exact TyB.ne ⟨cs,fr,h1⟩ hg (Ne.symm hne)
structure dg (T:TypeId) (w w':World):Prop where
 size:w.heap.size≤w'.heap.size
 block:∀k,k < w.heap.size→¬ TyB T w k→w'.heap[k]?=w.heap[k]?
theorem dg.refl (T:TypeId) (w:World):dg T w w:=⟨Nat.le_refl _,fun _ _ _=>rfl⟩
theorem dg.store {T:TypeId} {w:World} {g:Nat} (hg:TyB T w g) (j:Nat) (u:Value):dg T w (w.setCell ⟨g,j,none⟩ u):=
 ⟨by simp[World.setCell],fun k _ hn=>Below.heap_setCell _ _ _ _ (fun e=>hn (by subst e;exact hg))⟩
theorem dg.cell {T:TypeId} {w w':World} (h:dg T w w') {a:Addr} {v:Value} (hc:w.cell? a=some v) (hn:¬ TyB T w a.block):w'.cell? a=some v:=
 (World.cell?_of_block (h.block a.block (jw hc) hn)).trans hc
theorem dg.ty {T t:TypeId} {w w':World} (h:dg T w w') {g:Nat} (hg:TyB t w g) (hne:T≠t):TyB t w' g:=by
 have hlt:=hg.lt
 obtain⟨cs,fr,h1⟩:=id hg
 exact⟨cs,fr,(h.block g hlt (fun hT=>(TyB.ne hT hg hne) rfl)).trans h1⟩
theorem dg.of_below {T:TypeId} {w w':World} (h:Below w.heap.size w w'):dg T w w':=⟨h.size,fun k hk _=>h.block k hk⟩
theorem dg.trans {T:TypeId} {a b c:World} (h:dg T a b) (h':dg T b c):dg T a c:=
 ⟨Nat.le_trans h.size h'.size,fun k hk hn=>(h'.block k (Nat.lt_of_lt_of_le hk h.size) (fun hT=>hn (by
  obtain⟨cs,fr,h1⟩:=hT
  exact Classical.byContradiction fun hc=>hc ⟨cs,fr,(h.block k hk hc).symm.trans h1⟩))).trans (h.block k hk hn)⟩
theorem dg.set {T:TypeId} {a w:World} {g:Nat} (h:dg T a w) (hg:TyB T w g) (j:Nat) (u:Value):dg T a (w.setCell ⟨g,j,none⟩ u):=h.trans (.store hg j u)
theorem dg.alloc {T:TypeId} {a w:World} (h:dg T a w) (o:Obj):dg T a (w.alloc o):=h.trans (.of_below ((Below.refl _ _).alloc (Nat.le_refl _) o))
theorem dg.drew {T:TypeId} {a w:World} (h:dg T a w):dg T a w.drew:=h.trans (.of_below (Below.refl _ _).drew)
theorem Sl.onlyT {k:IntKind} {T:TypeId} {w w':World} {ao:Option Addr} {n c:Nat} {l:List Nat} (h:Sl k w ao n c l) (ho:dg T w w') (hne:T≠tyOf k):Sl k w' ao n c l:=by
 refine⟨h.len,h.cap,h.max,?_,h.nil,fun a e hn=>?_⟩
 ·intro i hi
  obtain⟨b,o,e,hc⟩:=h.cells i hi
  refine⟨b,o,e,fun j hj=>ho.cell (hc j hj) (fun hT=>?_)⟩
  exact h.ty.ne hT hne e (by have:=h.len;omega) rfl
 ·exact ho.ty (h.ty a e hn) hne
theorem ck.onlyT {k:IntKind} {B:Nat} {T:TypeId} {w w':World} {v:Value} {x:Nat} (h:ck k B w v x) (ho:dg T w w') (hne:T≠tyOf k):ck k B w' v x:=by
 obtain⟨ao,n,c,l,e,hs,hc,hv⟩:=h
 exact⟨ao,n,c,l,e,hs.onlyT ho hne,hc,hv⟩
section
variable {w w':World} {base:Nat} {e:TypeId} {size:Nat} {v:Value} {n:Nat} {xs:List Value}
theorem jd3 (h:Below w.heap.size w w') (row:Option Nat):w.grownBy w' row:=⟨h.os,h.tape,h.output,h.size,fun i hi _=>h.block i hi⟩
theorem qz (h:w.ownsRow base e size v n xs) (hb:Below w.heap.size w w'):w'.ownsRow base e size v n xs:=
 h.kept (jd3 hb none) (by cases v.ownBlock<;>simp)
theorem owns_ty (h:w.ownsRow base e size v n xs) {g:Nat} (hg:v.ownBlock=some g):TyB e w g:=by
 rcases h.2 with ⟨rfl,_⟩|⟨g',cap,cur,rfl,_,hgg,_⟩
 ·simp[Value.ownBlock] at hg
 ·simp[Value.ownBlock] at hg
  subst hg
  exact⟨_,_,hgg⟩
theorem iu (h:w.ownsRow base e size v n xs) (hg:w.grownBy w' v.ownBlock):dg e w w':=
 ⟨hg.size,fun k hk hn=>hg.block k hk (fun he=>hn (owns_ty h he.symm))⟩
theorem zi {w0:World} (h:w.ownsRow base e size v n xs) (hg:w.grownBy w' v.ownBlock) (hb:Below base w0 w) (hB:base≤w.heap.size):Below base w0 w':=
 hb.grown hg hB (fun k hk=>(h.lt k hk).1)
theorem jd8 {e':TypeId} {base' size' n':Nat} {v':Value} {xs':List Value} (h:w.ownsRow base' e' size' v' n' xs') (ho:dg e w w') (hne:e≠e'):w'.ownsRow base' e' size' v' n' xs':=by
 refine⟨h.1,?_⟩
 rcases h.2 with hn|⟨g,cap,cur,rfl,hb,hgg,rest⟩
 ·exact .inl hn
 ·exact .inr ⟨g,cap,cur,rfl,hb,(ho.block g (lt_of_block hgg) (fun hT=>(TyB.ne hT ⟨_,_,hgg⟩ hne) rfl)).trans hgg,rest⟩
theorem rd (h:w.ownsRow base e size v n xs):∃ao c,v=.slice ao n c∧n≤c∧c≤9223372036854775807∧(ao=none→c=0):=by
 rcases h.2 with ⟨rfl,rfl⟩|⟨g,cap,cur,rfl,_,_,hn,hcap,_⟩
 ·exact⟨_,_,rfl,Nat.le_refl _,by omega,fun _=>rfl⟩
 ·exact⟨_,_,rfl,hn,by simpa [maxLen] using hcap,fun e=>by cases e⟩
end
theorem news_new (w:World) (cs:List Value) (t:TypeId):∀j u,cs[j]?=some u→(w.alloc (.cells cs.toArray t)).cell? ((⟨w.heap.size,0,none⟩:Addr).add j)=some u:=by
 intro j u hu
 rw[iy,World.cell?_alloc_at _ _ _ _ rfl]
 simpa using hu
end Go.Proofs.YtbnomdlojmgigaaGreat
namespace Go.Proofs.YtbnomdlojmgigaaGreat
open Go.RowKit Dg
theorem Calls.abs {P:Program} {f:FuncId} {args:Array Value} {w:World} {R:Ending→World→Prop} (h:∀w',w'=w→Calls P f args w' R):Calls P f args w R:=h w rfl
theorem Code.abs {P:Program} {c:Code} {Q:Exit→Act→World→Prop} {a:Act} {w:World} (h:∀w',w'=w→c.wp P Q a w'):c.wp P Q a w:=h w rfl
theorem bodyPost.abs {P:Program} {fn:Func} {R:Ending→World→Prop} {e:Exit} {a:Act} {w:World} (h:∀w',w'=w→bodyPost P fn R e a w'):bodyPost P fn R e a w:=h w rfl
theorem wpList.abs {P:Program} {ops:Array Oper} {Q:Exit→Act→World→Prop} {l:List Oper} {a:Act} {w:World} (h:∀w',w'=w→wpList P ops Q l a w'):wpList P ops Q l a w:=h w rfl
def Bx (w:World) (g:Nat) (t:TypeId) (cs:Array Value):Prop:=w.heap[g]?=some (.cells cs t (0,0))
section
variable {w w':World} {g:Nat} {t:TypeId} {cs:Array Value}
theorem Bx.lt (h:Bx w g t cs):g < w.heap.size:=lt_of_block h
theorem Bx.ty (h:Bx w g t cs):TyB t w g:=⟨cs,(0,0),h⟩
theorem Bx.at (h:Bx w g t cs) (i:Nat) {v:Value} (hv:cs[i]?=some v):w.cell? ⟨g,i,none⟩=some v:=by rw[cell_of_row w g i cs t (0,0) h];exact hv
theorem Bx.news {l:List Value} (h:Bx w g t l.toArray):∀j u,l[j]?=some u→w.cell? ((⟨g,0,none⟩:Addr).add j)=some u:=fun j u hu=>by
 rw[iy,Nat.zero_add];exact h.at j (by simpa using hu)
theorem Bx.free (h:Bx w g t cs) (i:Nat):w.frozen? ⟨g,i,none⟩=false:=by
 unfold Bx at h
 simp[World.frozen?,h]
theorem Bx.new (w:World) (t:TypeId) (cs:Array Value):Bx (w.alloc (.cells cs t)) w.heap.size t cs:=heap_alloc_new w _
theorem Bx.new' (w:World) (t:TypeId) (cs:Array Value) (g:Nat) (hg:g=w.heap.size):Bx (w.alloc (.cells cs t)) g t cs:=by subst hg;exact heap_alloc_new w _
theorem Bx.drew (h:Bx w g t cs):Bx w.drew g t cs:=h
theorem Bx.drewN (h:Bx w g t cs) (n:Nat):Bx (w.drewN n) g t cs:=h
theorem Bx.alloc (h:Bx w g t cs) (o:Obj):Bx (w.alloc o) g t cs:=(Below.heap_alloc w o g h.lt).trans h
theorem Bx.set (h:Bx w g t cs) (i:Nat) (u:Value) {cs':Array Value} (hc:cs.setIfInBounds i u=cs'):Bx (w.setCell ⟨g,i,none⟩ u) g t cs':=by
 subst hc
 unfold Bx at h ⊢
 simp[World.setCell,Array.getElem?_modify,h]
theorem Bx.far (h:Bx w g t cs) {p:Addr} (hp:g≠p.block) (u:Value):Bx (w.setCell p u) g t cs:=(Below.heap_setCell w p u g hp).trans h
theorem Bx.mono (h:Bx w g t cs) (hb:Below w.heap.size w w'):Bx w' g t cs:=(hb.block g h.lt).trans h
theorem Bx.grown {row:Option Nat} (h:Bx w g t cs) (hb:w.grownBy w' row) (hg:some g≠row):Bx w' g t cs:=(hb.block g h.lt hg).trans h
theorem Bx.only {T:TypeId} (h:Bx w g t cs) (ho:dg T w w') (hne:T≠t):Bx w' g t cs:=(ho.block g h.lt (fun hT=>(TyB.ne hT h.ty hne) rfl)).trans h
end
structure aw (w w':World):Prop where
 size:w.heap.size≤w'.heap.size
 block:∀k t,TyB t w k→(t=108∨t=150)→w'.heap[k]?=w.heap[k]?
theorem aw.refl (w:World):aw w w:=⟨Nat.le_refl _,fun _ _ _ _=>rfl⟩
theorem aw.ty {w w':World} (h:aw w w') {k:Nat} {t:TypeId} (hk:TyB t w k) (ht:t=108∨t=150):TyB t w' k:=by
 obtain⟨cs,fr,h1⟩:=id hk
 exact⟨cs,fr,(h.block k t hk ht).trans h1⟩
theorem aw.trans {a b c:World} (h:aw a b) (h':aw b c):aw a c:=
 ⟨Nat.le_trans h.size h'.size,fun k t hk ht=>(h'.block k t (h.ty hk ht) ht).trans (h.block k t hk ht)⟩
theorem aw.of_below {w w':World} (h:Below w.heap.size w w'):aw w w':=⟨h.size,fun k _ hk _=>h.block k hk.lt⟩
theorem aw.below {a w w':World} (h:aw a w) (hb:Below w.heap.size w w'):aw a w':=h.trans (.of_below hb)
theorem aw.alloc {a w:World} (h:aw a w) (o:Obj):aw a (w.alloc o):=h.below ((Below.refl _ _).alloc (Nat.le_refl _) o)
theorem aw.drew {a w:World} (h:aw a w):aw a w.drew:=h.below (Below.refl _ _).drew
theorem aw.drewN {a w:World} (h:aw a w) (n:Nat):aw a (w.drewN n):=h.below (it (Below.refl _ _) n)
theorem aw.of_only {w w':World} {T:TypeId} (h:dg T w w') (hT:T≠108∧T≠150):aw w w':=
 ⟨h.size,fun k t hk ht=>h.block k hk.lt (fun hT'=>by
  rcases ht with rfl|rfl
  ·exact TyB.ne hT' hk hT.1 rfl
  ·exact TyB.ne hT' hk hT.2 rfl)⟩
theorem aw.set {a w:World} {g:Nat} {T:TypeId} (h:aw a w) (hg:TyB T w g) (hT:T≠108∧T≠150) (j:Nat) (u:Value):aw a (w.setCell ⟨g,j,none⟩ u):=
 h.trans (.of_only (dg.store hg j u) hT)
theorem aw.owns {w w':World} {base:Nat} {e:TypeId} {size:Nat} {v:Value} {n:Nat} {xs:List Value} (h:w.ownsRow base e size v n xs) (hg:w.grownBy w' v.ownBlock) (he:e≠108∧e≠150):aw w w':=
 .of_only (iu h hg) he
theorem TyB.alloc {t:TypeId} {w:World} {g:Nat} (h:TyB t w g) (o:Obj):TyB t (w.alloc o) g:=h.mono ((Below.refl _ _).alloc (Nat.le_refl _) o)
theorem TyB.drew {t:TypeId} {w:World} {g:Nat} (h:TyB t w g):TyB t w.drew g:=h
theorem ck.keep {k:IntKind} {B:Nat} {w w':World} {v:Value} {x:Nat} (h:ck k B w v x) (hk:aw w w') (ht:tyOf k=108∨tyOf k=150:=by first|exact .inl rfl|exact .inr rfl):ck k B w' v x:=by
 obtain⟨ao,n,c,l,e,hs,hc,hv⟩:=h
 refine⟨ao,n,c,l,e,⟨hs.len,hs.cap,hs.max,?_,hs.nil,fun a e' hn=>hk.ty (hs.ty a e' hn) ht⟩,hc,hv⟩
 intro i hi
 obtain⟨b,o,e',hcl⟩:=hs.cells i hi
 refine⟨b,o,e',fun j hj=>?_⟩
 have h1:=hcl j hj
 exact (World.cell?_of_block (hk.block b _ (hs.ty _ e' (by have:=hs.len;omega)) ht)).trans h1
def PV (w:World) (v:Value) (q:Rat):Prop:=
 ∃vn vd,v=.agg #[.bool (ng q),vn,vd]∧ck .u64 18446744073709551616 w vn q.num.natAbs∧ck .u64 18446744073709551616 w vd (if q.den=1 then 0 else q.den)
theorem PV.mono {w w':World} {v:Value} {q:Rat} (h:PV w v q) (hb:Below w.heap.size w w'):PV w' v q:=by
 obtain⟨vn,vd,e,h1,h2⟩:=h
 exact⟨vn,vd,e,h1.mono hb,h2.mono hb⟩
theorem PV.keep {w w':World} {v:Value} {q:Rat} (h:PV w v q) (hk:aw w w'):PV w' v q:=by
 obtain⟨vn,vd,e,h1,h2⟩:=h
 exact⟨vn,vd,e,h1.keep hk (.inl rfl),h2.keep hk (.inl rfl)⟩
theorem RV.keep {w w':World} {v:Value} {q:Rat} (h:RV w v q) (hk:aw w w'):RV w' v q:=by
 obtain⟨vn,vd,d,e,h1,h2,h3⟩:=h
 exact⟨vn,vd,d,e,h1.keep hk (.inr rfl),h2.keep hk (.inr rfl),h3⟩
theorem PV.shape {w:World} {v:Value} {q:Rat} (h:PV w v q):∃s a1 n1 c1 a2 n2 c2,v=.agg #[.bool s,.slice a1 n1 c1,.slice a2 n2 c2]:=by
 obtain⟨vn,vd,e,⟨a1,n1,c1,l1,rfl,_⟩,⟨a2,n2,c2,l2,rfl,_⟩⟩:=h
 exact⟨_,_,_,_,_,_,_,e⟩
theorem RV.shape {w:World} {v:Value} {q:Rat} (h:RV w v q):∃s a1 n1 c1 a2 n2 c2,v=.agg #[.bool s,.slice a1 n1 c1,.slice a2 n2 c2]:=by
 obtain⟨vn,vd,d,e,⟨a1,n1,c1,l1,rfl,_⟩,⟨a2,n2,c2,l2,rfl,_⟩,_⟩:=h
 exact⟨_,_,_,_,_,_,_,e⟩
theorem ck.shape {k:IntKind} {B:Nat} {w:World} {v:Value} {x:Nat} (h:ck k B w v x):∃a n c,v=.slice a n c:=by
 obtain⟨a,n,c,l,e,_⟩:=h
 exact⟨_,_,_,e⟩
theorem PV.parts {w:World} {q:Rat} {s v1 v2:Value} (h:PV w (.agg #[s,v1,v2]) q):s=.bool (ng q)∧ck .u64 18446744073709551616 w v1 q.num.natAbs∧ck .u64 18446744073709551616 w v2 (if q.den=1 then 0 else q.den):=by
 obtain⟨vn,vd,e,h1,h2⟩:=h
 injection e with e
 injection e with e
 injection e with e1 e
 injection e with e2 e
 injection e with e3 e
 subst e1 e2 e3
 exact⟨rfl,h1,h2⟩
theorem PV.sign {w:World} {q:Rat} {s:Bool} {v1 v2:Value} (h:PV w (.agg #[.bool s,v1,v2]) q):s=ng q:=by
 have:=h.parts.1
 injection this
theorem PV.mk' {w:World} {q:Rat} {b:Bool} {v1 v2:Value} {n d:Nat} (h1:ck .u64 18446744073709551616 w v1 n) (h2:ck .u64 18446744073709551616 w v2 d) (hb:b=ng q) (hn:n=q.num.natAbs) (hd:d=if q.den=1 then 0 else q.den):PV w (.agg #[.bool b,v1,v2]) q:=by
 subst hb hn hd
 exact⟨v1,v2,rfl,h1,h2⟩
def Ret1 (R:World→Value→Prop) (w:World) (e:Ending) (w':World):Prop:=∃v,e=.returned v∧R w' v∧Below w.heap.size w w'
def Ret2 (R1 R2:World→Value→Prop) (w:World) (e:Ending) (w':World):Prop:=∃v1 v2,e=.returned (.tuple #[v1,v2])∧R1 w' v1∧R2 w' v2∧Below w.heap.size w w'
def mp (w:World) (q:Rat) (e:Ending) (w':World):Prop:=∃v,e=.returned v∧PV w' v q∧Below w.heap.size w w'
def RetPE (w:World) (q:Rat) (err:Int) (e:Ending) (w':World):Prop:=∃v,e=.returned (.tuple #[v,.int .i64 err])∧PV w' v q∧Below w.heap.size w w'
def fj (w:World) (v:Value) (e:Ending) (w':World):Prop:=e=.returned v∧Below w.heap.size w w'
theorem bh {w:World} {a:Addr} {v u:Value} {p:Addr} (h:w.cell? a=some v) (hne:a.block≠p.block):(w.setCell p u).cell? a=some v:=by
 rw[World.cell?_setCell_other _ _ _ _ (by intro e;subst e;exact hne rfl)];exact h
theorem dh {w:World} {a:Addr} {v:Value} (h:w.cell? a=some v) (o:Obj):(w.alloc o).cell? a=some v:=by
 rw[World.cell?_alloc_lt _ _ _ (jw h)];exact h
theorem ah {w w':World} {a:Addr} {v:Value} (h:w.cell? a=some v) (hb:Below w.heap.size w w'):w'.cell? a=some v:=by
 rw[hb.cell (p:=a) (jw h)];exact h
theorem ar {w W W':World} (h:Below w.heap.size w W) (hb:Below W.heap.size W W'):Below w.heap.size w W':=Below.trans h (hb.mono (Below.size h))
theorem de (w:World):Below w.heap.size w w.drew:=(Below.refl _ _).drew
def SzP (K:Nat) (q:Rat):Prop:=q.num.natAbs < 18446744073709551616 ^ K∧q.den < 18446744073709551616 ^ K
def Fit (q:Rat):Prop:=SzQ 134217728 q
theorem SzQ.p {K:Nat} {q:Rat} (h:SzQ K q):SzP K q:=
 ⟨Nat.lt_of_lt_of_le h.1 (Nat.pow_le_pow_left (by omega) K),Nat.lt_of_lt_of_le h.2 (Nat.pow_le_pow_left (by omega) K)⟩
theorem Fit.p {q:Rat} (h:Fit q):SzP 134217728 q:=SzQ.p h
theorem SzQ.fit {K:Nat} {q:Rat} (h:SzQ K q) (hK:K≤134217728:=by omega):Fit q:=h.mono hK
theorem ji {K L a b:Nat} (ha:a < 18446744073709551616 ^ K) (hb:b < 18446744073709551616 ^ L):a * b < 18446744073709551616 ^ (K + L):=by
 rw[Nat.pow_add]
 rcases Nat.eq_zero_or_pos b with h|h
 ·subst h;exact Nat.mul_pos (Nat.pow_pos (by omega)) (Nat.pow_pos (by omega))
 ·exact Nat.lt_of_lt_of_le (Nat.mul_lt_mul_of_pos_right ha h) (Nat.mul_le_mul_left _ (Nat.le_of_lt hb))
theorem pow_add_ltP {K a b:Nat} (ha:a < 18446744073709551616 ^ K) (hb:b < 18446744073709551616 ^ K):a + b < 18446744073709551616 ^ (K + 1):=by
 have:0 < 18446744073709551616 ^ K:=Nat.pow_pos (by omega)
 rw[Nat.pow_succ]
 omega
theorem Bx.a0 {w:World} {g:Nat} {t:TypeId} {a0:Value} {l:List Value} (h:Bx w g t (a0 ::l).toArray):w.cell? ⟨g,0,none⟩=some a0:=h.at 0 rfl
theorem Bx.a1 {w:World} {g:Nat} {t:TypeId} {a0:Value} {a1:Value} {l:List Value} (h:Bx w g t (a0 ::a1 ::l).toArray):w.cell? ⟨g,1,none⟩=some a1:=h.at 1 rfl
theorem Bx.a2 {w:World} {g:Nat} {t:TypeId} {a0:Value} {a1:Value} {a2:Value} {l:List Value} (h:Bx w g t (a0 ::a1 ::a2 ::l).toArray):w.cell? ⟨g,2,none⟩=some a2:=h.at 2 rfl
theorem Bx.a3 {w:World} {g:Nat} {t:TypeId} {a0:Value} {a1:Value} {a2:Value} {a3:Value} {l:List Value} (h:Bx w g t (a0 ::a1 ::a2 ::a3 ::l).toArray):w.cell? ⟨g,3,none⟩=some a3:=h.at 3 rfl
theorem Bx.a4 {w:World} {g:Nat} {t:TypeId} {a0:Value} {a1:Value} {a2:Value} {a3:Value} {a4:Value} {l:List Value} (h:Bx w g t (a0 ::a1 ::a2 ::a3 ::a4 ::l).toArray):w.cell? ⟨g,4,none⟩=some a4:=h.at 4 rfl
theorem Bx.a5 {w:World} {g:Nat} {t:TypeId} {a0:Value} {a1:Value} {a2:Value} {a3:Value} {a4:Value} {a5:Value} {l:List Value} (h:Bx w g t (a0 ::a1 ::a2 ::a3 ::a4 ::a5 ::l).toArray):w.cell? ⟨g,5,none⟩=some a5:=h.at 5 rfl
theorem Bx.a6 {w:World} {g:Nat} {t:TypeId} {a0:Value} {a1:Value} {a2:Value} {a3:Value} {a4:Value} {a5:Value} {a6:Value} {l:List Value} (h:Bx w g t (a0 ::a1 ::a2 ::a3 ::a4 ::a5 ::a6 ::l).toArray):w.cell? ⟨g,6,none⟩=some a6:=h.at 6 rfl
theorem Bx.a7 {w:World} {g:Nat} {t:TypeId} {a0:Value} {a1:Value} {a2:Value} {a3:Value} {a4:Value} {a5:Value} {a6:Value} {a7:Value} {l:List Value} (h:Bx w g t (a0 ::a1 ::a2 ::a3 ::a4 ::a5 ::a6 ::a7 ::l).toArray):w.cell? ⟨g,7,none⟩=some a7:=h.at 7 rfl
theorem Bx.a8 {w:World} {g:Nat} {t:TypeId} {a0:Value} {a1:Value} {a2:Value} {a3:Value} {a4:Value} {a5:Value} {a6:Value} {a7:Value} {a8:Value} {l:List Value} (h:Bx w g t (a0 ::a1 ::a2 ::a3 ::a4 ::a5 ::a6 ::a7 ::a8 ::l).toArray):w.cell? ⟨g,8,none⟩=some a8:=h.at 8 rfl
class Mv (A:Prop) (w w':World) (B:outParam Prop):Prop where
  mv:Below w.heap.size w w'→A→B
class Mk (A:Prop) (w w':World) (B:outParam Prop):Prop where
  mv:aw w w'→A→B
class MvS (A:Prop) (w w':World) (B:outParam Prop):Prop where
  mv:Below w.heap.size w w'→B→A
class MkS (A:Prop) (w w':World) (B:outParam Prop):Prop where
  mv:aw w w'→B→A
section
variable {w w':World}
instance {g:Nat} {t:TypeId} {c:Array Value}:Mv (Bx w g t c) w w' (Bx w' g t c):=⟨fun hb h=>h.mono hb⟩
instance {v:Value} {q:Rat}:Mv (PV w v q) w w' (PV w' v q):=⟨fun hb h=>h.mono hb⟩
instance {v:Value} {q:Rat}:Mv (RV w v q) w w' (RV w' v q):=⟨fun hb h=>h.mono hb⟩
instance {v:Value} {q:Rat}:Mk (PV w v q) w w' (PV w' v q):=⟨fun hb h=>h.keep hb⟩
instance {v:Value} {q:Rat}:Mk (RV w v q) w w' (RV w' v q):=⟨fun hb h=>h.keep hb⟩
instance (priority:=low) {G:Prop}:MvS G w w' G:=⟨fun _ h=>h⟩
instance (priority:=low) {G:Prop}:MkS G w w' G:=⟨fun _ h=>h⟩
instance {A B X Y:Prop} [Mv A w w' B] [MvS X w w' Y]:MvS (A→X) w w' (B→Y):=⟨fun hb h a=>MvS.mv hb (h (Mv.mv hb a))⟩
instance {A B X Y:Prop} [Mk A w w' B] [MkS X w w' Y]:MkS (A→X) w w' (B→Y):=⟨fun hb h a=>MkS.mv hb (h (Mk.mv hb a))⟩
theorem mo {X Y:Prop} [MvS X w w' Y] (hb:Below w.heap.size w w') (h:Y):X:=MvS.mv hb h
theorem ke {X Y:Prop} [MkS X w w' Y] (hk:aw w w') (h:Y):X:=MkS.mv hk h
theorem mS {u:World} {X Y:Prop} [MvS X w w' Y] (hs:Below u.heap.size u w) (hb:Below w.heap.size w w') (h:Below u.heap.size u w'→Y):X:=MvS.mv hb (h (Below.trans hs (hb.mono (Below.size hs))))
end
theorem Bx.k1l {w:World} {g:Nat} {t:TypeId} {a0:Value} {r:List Value} {G:Prop} (h:Bx w g t (a0 ::r).toArray) (k:w.cell? ⟨g,0,none⟩=some a0→g < w.heap.size→G):G:=k (h.at 0 rfl) h.lt
theorem Bx.k1f {w:World} {g:Nat} {t:TypeId} {a0:Value} {r:List Value} {G:Prop} (h:Bx w g t (a0 ::r).toArray) (k:w.cell? ⟨g,0,none⟩=some a0→(∀i:Nat,w.frozen? ⟨g,i,none⟩=false)→G):G:=k (h.at 0 rfl) h.free
theorem Bx.k1fl {w:World} {g:Nat} {t:TypeId} {a0:Value} {r:List Value} {G:Prop} (h:Bx w g t (a0 ::r).toArray) (k:w.cell? ⟨g,0,none⟩=some a0→(∀i:Nat,w.frozen? ⟨g,i,none⟩=false)→g < w.heap.size→G):G:=k (h.at 0 rfl) h.free h.lt
theorem Bx.k2 {w:World} {g:Nat} {t:TypeId} {a0 a1:Value} {r:List Value} {G:Prop} (h:Bx w g t (a0 ::a1 ::r).toArray) (k:w.cell? ⟨g,0,none⟩=some a0→w.cell? ⟨g,1,none⟩=some a1→G):G:=k (h.at 0 rfl) (h.at 1 rfl)
theorem Bx.k2l {w:World} {g:Nat} {t:TypeId} {a0 a1:Value} {r:List Value} {G:Prop} (h:Bx w g t (a0 ::a1 ::r).toArray) (k:w.cell? ⟨g,0,none⟩=some a0→w.cell? ⟨g,1,none⟩=some a1→g < w.heap.size→G):G:=k (h.at 0 rfl) (h.at 1 rfl) h.lt
theorem Bx.k2f {w:World} {g:Nat} {t:TypeId} {a0 a1:Value} {r:List Value} {G:Prop} (h:Bx w g t (a0 ::a1 ::r).toArray) (k:w.cell? ⟨g,0,none⟩=some a0→w.cell? ⟨g,1,none⟩=some a1→(∀i:Nat,w.frozen? ⟨g,i,none⟩=false)→G):G:=k (h.at 0 rfl) (h.at 1 rfl) h.free
theorem Bx.k2fl {w:World} {g:Nat} {t:TypeId} {a0 a1:Value} {r:List Value} {G:Prop} (h:Bx w g t (a0 ::a1 ::r).toArray) (k:w.cell? ⟨g,0,none⟩=some a0→w.cell? ⟨g,1,none⟩=some a1→(∀i:Nat,w.frozen? ⟨g,i,none⟩=false)→g < w.heap.size→G):G:=k (h.at 0 rfl) (h.at 1 rfl) h.free h.lt
theorem Bx.k3 {w:World} {g:Nat} {t:TypeId} {a0 a1 a2:Value} {r:List Value} {G:Prop} (h:Bx w g t (a0 ::a1 ::a2 ::r).toArray) (k:w.cell? ⟨g,0,none⟩=some a0→w.cell? ⟨g,1,none⟩=some a1→w.cell? ⟨g,2,none⟩=some a2→G):G:=k (h.at 0 rfl) (h.at 1 rfl) (h.at 2 rfl)
theorem Bx.k3l {w:World} {g:Nat} {t:TypeId} {a0 a1 a2:Value} {r:List Value} {G:Prop} (h:Bx w g t (a0 ::a1 ::a2 ::r).toArray) (k:w.cell? ⟨g,0,none⟩=some a0→w.cell? ⟨g,1,none⟩=some a1→w.cell? ⟨g,2,none⟩=some a2→g < w.heap.size→G):G:=k (h.at 0 rfl) (h.at 1 rfl) (h.at 2 rfl) h.lt
theorem Bx.k3f {w:World} {g:Nat} {t:TypeId} {a0 a1 a2:Value} {r:List Value} {G:Prop} (h:Bx w g t (a0 ::a1 ::a2 ::r).toArray) (k:w.cell? ⟨g,0,none⟩=some a0→w.cell? ⟨g,1,none⟩=some a1→w.cell? ⟨g,2,none⟩=some a2→(∀i:Nat,w.frozen? ⟨g,i,none⟩=false)→G):G:=k (h.at 0 rfl) (h.at 1 rfl) (h.at 2 rfl) h.free
theorem Bx.k3fl {w:World} {g:Nat} {t:TypeId} {a0 a1 a2:Value} {r:List Value} {G:Prop} (h:Bx w g t (a0 ::a1 ::a2 ::r).toArray) (k:w.cell? ⟨g,0,none⟩=some a0→w.cell? ⟨g,1,none⟩=some a1→w.cell? ⟨g,2,none⟩=some a2→(∀i:Nat,w.frozen? ⟨g,i,none⟩=false)→g < w.heap.size→G):G:=k (h.at 0 rfl) (h.at 1 rfl) (h.at 2 rfl) h.free h.lt
theorem Bx.k4 {w:World} {g:Nat} {t:TypeId} {a0 a1 a2 a3:Value} {r:List Value} {G:Prop} (h:Bx w g t (a0 ::a1 ::a2 ::a3 ::r).toArray) (k:w.cell? ⟨g,0,none⟩=some a0→w.cell? ⟨g,1,none⟩=some a1→w.cell? ⟨g,2,none⟩=some a2→w.cell? ⟨g,3,none⟩=some a3→G):G:=k (h.at 0 rfl) (h.at 1 rfl) (h.at 2 rfl) (h.at 3 rfl)
theorem Bx.k4l {w:World} {g:Nat} {t:TypeId} {a0 a1 a2 a3:Value} {r:List Value} {G:Prop} (h:Bx w g t (a0 ::a1 ::a2 ::a3 ::r).toArray) (k:w.cell? ⟨g,0,none⟩=some a0→w.cell? ⟨g,1,none⟩=some a1→w.cell? ⟨g,2,none⟩=some a2→w.cell? ⟨g,3,none⟩=some a3→g < w.heap.size→G):G:=k (h.at 0 rfl) (h.at 1 rfl) (h.at 2 rfl) (h.at 3 rfl) h.lt
theorem Bx.k4f {w:World} {g:Nat} {t:TypeId} {a0 a1 a2 a3:Value} {r:List Value} {G:Prop} (h:Bx w g t (a0 ::a1 ::a2 ::a3 ::r).toArray) (k:w.cell? ⟨g,0,none⟩=some a0→w.cell? ⟨g,1,none⟩=some a1→w.cell? ⟨g,2,none⟩=some a2→w.cell? ⟨g,3,none⟩=some a3→(∀i:Nat,w.frozen? ⟨g,i,none⟩=false)→G):G:=k (h.at 0 rfl) (h.at 1 rfl) (h.at 2 rfl) (h.at 3 rfl) h.free
theorem Bx.k4fl {w:World} {g:Nat} {t:TypeId} {a0 a1 a2 a3:Value} {r:List Value} {G:Prop} (h:Bx w g t (a0 ::a1 ::a2 ::a3 ::r).toArray) (k:w.cell? ⟨g,0,none⟩=some a0→w.cell? ⟨g,1,none⟩=some a1→w.cell? ⟨g,2,none⟩=some a2→w.cell? ⟨g,3,none⟩=some a3→(∀i:Nat,w.frozen? ⟨g,i,none⟩=false)→g < w.heap.size→G):G:=k (h.at 0 rfl) (h.at 1 rfl) (h.at 2 rfl) (h.at 3 rfl) h.free h.lt
theorem ae {p:Prop} (h:p):Hid p:=Lib.hid h
theorem ag (n:Nat):n≤n:=Nat.le_refl n
end Go.Proofs.YtbnomdlojmgigaaGreat
namespace Go.Proofs.YtbnomdlojmgigaaGreat
open Go.RowKit Dg
def jp (w:World) (b o:Nat) (cs:List Value):Prop:=∀j u,cs[j]?=some u→w.cell? ⟨b,o + j,none⟩=some u
def ir {α:Type} (R:World→List Value→α→Prop):Prop:=∀(w w':World) (cs:List Value) (x:α),R w cs x→aw w w'→R w' cs x
def Rows {α:Type} (size:Nat) (T:TypeId) (R:World→List Value→α→Prop) (w:World) (v:Value) (l:List α):Prop:=
 ∃ao c,v=.slice ao l.length c∧l.length≤c∧c≤9223372036854775807∧(ao=none→c=0)∧qu T w ao l.length∧
  ∀(i:Nat) (x:α),l[i]?=some x→∃b o cs,ao=some ⟨b,o,none⟩∧cs.length=size∧jp w b (o + i * size) cs∧R w cs x
theorem jp.mono {w w':World} {b o:Nat} {cs:List Value} (h:jp w b o cs) (hb:Below w.heap.size w w'):jp w' b o cs:=fun j u hu=>ah (h j u hu) hb
theorem jp.onlyT {w w':World} {b o:Nat} {cs:List Value} {T:TypeId} (h:jp w b o cs) (ho:dg T w w') (hn:¬ TyB T w b):jp w' b o cs:=fun j u hu=>ho.cell (h j u hu) hn
section
variable {α:Type} {size:Nat} {T:TypeId} {R:World→List Value→α→Prop} {w w':World} {v:Value} {l:List α}
theorem Rows.mono (hR:ir R) (h:Rows size T R w v l) (hb:Below w.heap.size w w'):Rows size T R w' v l:=by
 obtain⟨ao,c,e,h1,h2,h3,h4,h5⟩:=h
 refine⟨ao,c,e,h1,h2,h3,h4.mono hb,fun i x hx=>?_⟩
 obtain⟨b,o,cs,ea,hl,hc,hr⟩:=h5 i x hx
 exact⟨b,o,cs,ea,hl,hc.mono hb,hR _ _ _ _ hr (.of_below hb)⟩
theorem Rows.onlyT (hR:ir R) {t:TypeId} (h:Rows size T R w v l) (ho:dg t w w') (hne:t≠T) (hd:t≠108∧t≠150):Rows size T R w' v l:=by
 obtain⟨ao,c,e,h1,h2,h3,h4,h5⟩:=h
 refine⟨ao,c,e,h1,h2,h3,fun a ha hn=>ho.ty (h4 a ha hn) hne,fun i x hx=>?_⟩
 obtain⟨b,o,cs,ea,hl,hc,hr⟩:=h5 i x hx
 have hi:i < l.length:=(List.getElem?_eq_some_iff.1 hx).1
 have hb:=h4 _ ea (by omega)
 exact⟨b,o,cs,ea,hl,hc.onlyT ho (fun hT=>TyB.ne hT hb hne rfl),hR _ _ _ _ hr (.of_only ho hd)⟩
theorem Rows.slice (h:Rows size T R w v l):∃ao c,v=.slice ao l.length c∧l.length≤c∧c≤9223372036854775807∧(ao=none→c=0):=by
 obtain⟨ao,c,e,h1,h2,h3,_⟩:=h
 exact⟨ao,c,e,h1,h2,h3⟩
theorem Rows.get (h:Rows size T R w v l) {i:Nat} {x:α} (hx:l[i]?=some x):∃b o c cs,v=.slice (some ⟨b,o,none⟩) l.length c∧cs.length=size∧jp w b (o + i * size) cs∧R w cs x:=by
 obtain⟨ao,c,e,h1,h2,h3,h4,h5⟩:=h
 obtain⟨b,o,cs,ea,hl,hc,hr⟩:=h5 i x hx
 subst ea
 exact⟨b,o,c,cs,e,hl,hc,hr⟩
theorem Rows.open_ (h:Rows size T R w v l) (hl:0 < l.length):∃b o c,v=.slice (some ⟨b,o,none⟩) l.length c∧l.length≤c∧c≤9223372036854775807∧
  ∀(i:Nat) (x:α),l[i]?=some x→∃cs,cs.length=size∧jp w b (o + i * size) cs∧R w cs x:=by
 obtain⟨ao,c,e,h1,h2,h3,h4,h5⟩:=h
 obtain⟨b,o,cs,ea,_⟩:=h5 0 (l[0]'hl) (List.getElem?_eq_getElem hl)
 subst ea
 refine⟨b,o,c,e,h1,h2,fun i x hx=>?_⟩
 obtain⟨b',o',cs,ea,hl,hc,hr⟩:=h5 i x hx
 cases ea
 exact⟨cs,hl,hc,hr⟩
theorem Rows.lt {b o n c:Nat} {p:Option _} (h:Rows size T R w (.slice (some ⟨b,o,p⟩) n c) l) (hl:0 < l.length):b < w.heap.size:=by
 obtain⟨ao,c,e,h1,h2,h3,h4,h5⟩:=h
 injection e with e _ _
 subst e
 obtain⟨cs,fr,h6⟩:=h4 _ rfl hl
 exact lt_of_block h6
theorem Rows.nil_ (w:World):Rows size T R w (.slice none 0 0) ([]:List α):=
 ⟨none,0,rfl,ag _,by omega,fun _=>rfl,qu.zero _ _ _,fun i x hx=>by simp at hx⟩
theorem Rows.take (h:Rows size T R w v l) (k:Nat):∀ao n c,v=.slice ao n c→k≤n→Rows size T R w (.slice ao k c) (l.take k):=by
 intro ao n c e hk
 obtain⟨ao',c',e',h1,h2,h3,h4,h5⟩:=h
 rw[e] at e'
 injection e' with ea en ec
 subst ea en ec
 have hl:(l.take k).length=k:=by rw[List.length_take];omega
 refine⟨ao,c,by rw[hl],by omega,h2,h3,h4.take (by omega),fun i x hx=>?_⟩
 rw[List.getElem?_take] at hx
 split at hx
 ·exact h5 i x hx
 ·cases hx
end
def be {α:Type} (size:Nat) (R:World→List Value→α→Prop) (w:World) (v:Value) (l:List α):Prop:=
 ∃ao c,v=.slice ao l.length c∧l.length≤c∧c≤9223372036854775807∧(ao=none→c=0)∧
  ∀(i:Nat) (x:α),l[i]?=some x→∃b o cs,ao=some ⟨b,o,none⟩∧cs.length=size∧jp w b (o + i * size) cs∧R w cs x
section
variable {α:Type} {size:Nat} {T:TypeId} {R:World→List Value→α→Prop} {w w':World} {v:Value} {l:List α}
theorem Rows.toI (h:Rows size T R w v l):be size R w v l:=by
 obtain⟨ao,c,e,h1,h2,h3,_,h5⟩:=h
 exact⟨ao,c,e,h1,h2,h3,h5⟩
theorem be.mono (hR:ir R) (h:be size R w v l) (hb:Below w.heap.size w w'):be size R w' v l:=by
 obtain⟨ao,c,e,h1,h2,h3,h5⟩:=h
 refine⟨ao,c,e,h1,h2,h3,fun i x hx=>?_⟩
 obtain⟨b,o,cs,ea,hl,hc,hr⟩:=h5 i x hx
 exact⟨b,o,cs,ea,hl,hc.mono hb,hR _ _ _ _ hr (.of_below hb)⟩
theorem be.slice (h:be size R w v l):∃ao c,v=.slice ao l.length c∧l.length≤c∧c≤9223372036854775807∧(ao=none→c=0):=by
 obtain⟨ao,c,e,h1,h2,h3,_⟩:=h
 exact⟨ao,c,e,h1,h2,h3⟩
theorem be.get (h:be size R w v l) {i:Nat} {x:α} (hx:l[i]?=some x):∃b o c cs,v=.slice (some ⟨b,o,none⟩) l.length c∧cs.length=size∧jp w b (o + i * size) cs∧R w cs x:=by
 obtain⟨ao,c,e,h1,h2,h3,h5⟩:=h
 obtain⟨b,o,cs,ea,hl,hc,hr⟩:=h5 i x hx
 subst ea
 exact⟨b,o,c,cs,e,hl,hc,hr⟩
end
theorem js {size:Nat}:∀(css:List (List Value)),(∀cs∈css,cs.length=size)→∀(i j:Nat) (cs:List Value),css[i]?=some cs→j < size→css.flatten[i * size + j]?=cs[j]?
 | [],_,i,j,cs,h,_=>by simp at h
 | c ::r,hs,i,j,cs,h,hj=>by
  have hc:c.length=size:=hs c (by simp)
  match i with
  | 0=>
   simp only[List.getElem?_cons_zero,Option.some.injEq] at h
   subst h
   rw[List.flatten_cons,List.getElem?_append_left (by omega),Nat.zero_mul,Nat.zero_add]
  | i + 1=>
   rw[List.getElem?_cons_succ] at h
   rw[List.flatten_cons,List.getElem?_append_right (by rw[hc,Nat.succ_mul];omega)]
   rw[show (i + 1) * size + j - c.length=i * size + j from by rw[hc,Nat.succ_mul];omega]
   exact js r (fun x hx=>hs x (List.mem_cons_of_mem _ hx)) i j cs h hj
theorem dz {size:Nat}:∀(css:List (List Value)),(∀cs∈css,cs.length=size)→css.flatten.length=css.length * size
 | [],_=>by simp
 | c ::r,hs=>by
  rw[List.flatten_cons,List.length_append,hs c (by simp),dz r (fun x hx=>hs x (List.mem_cons_of_mem _ hx)),List.length_cons,Nat.succ_mul]
  omega
def cw {α:Type} (base:Nat) (T:TypeId) (size:Nat) (R:World→List Value→α→Prop) (w:World) (v:Value) (l:List α):Prop:=
 ∃css:List (List Value),css.length=l.length∧(∀cs∈css,cs.length=size)∧(∀(i:Nat) (cs:List Value) (x:α),css[i]?=some cs→l[i]?=some x→R w cs x)∧w.ownsRow base T size v l.length css.flatten
section
variable {α:Type} {base:Nat} {size:Nat} {T:TypeId} {R:World→List Value→α→Prop} {w w':World} {v:Value} {l:List α}
theorem cw.nil (w:World) (base:Nat) (T:TypeId) (size:Nat) (R:World→List Value→α→Prop):cw base T size R w (.slice none 0 0) []:=
 ⟨[],rfl,by simp,by simp,World.ownsRow_nil _ _ _ _⟩
theorem cw.own (h:cw base T size R w v l):∃xs,w.ownsRow base T size v l.length xs:=by
 obtain⟨css,_,_,_,h⟩:=h
 exact⟨_,h⟩
theorem cw.slice (h:cw base T size R w v l):∃ao c,v=.slice ao l.length c∧l.length≤c∧c≤9223372036854775807∧(ao=none→c=0):=by
 obtain⟨css,_,_,_,h⟩:=h
 exact rd h
theorem cw.mono (hR:ir R) (h:cw base T size R w v l) (hb:Below w.heap.size w w'):cw base T size R w' v l:=by
 obtain⟨css,h1,h2,h3,h4⟩:=h
 exact⟨css,h1,h2,fun i cs x hc hx=>hR _ _ _ _ (h3 i cs x hc hx) (.of_below hb),qz h4 hb⟩
theorem cw.onlyT (hR:ir R) {t:TypeId} (h:cw base T size R w v l) (ho:dg t w w') (hne:t≠T) (hd:t≠108∧t≠150):cw base T size R w' v l:=by
 obtain⟨css,h1,h2,h3,h4⟩:=h
 exact⟨css,h1,h2,fun i cs x hc hx=>hR _ _ _ _ (h3 i cs x hc hx) (.of_only ho hd),jd8 h4 ho hne⟩
theorem cw.grown (hR:ir R) (h:cw base T size R w v l) {row:Option Nat} (hg:w.grownBy w' row) (hne:v.ownBlock=none∨v.ownBlock≠row) (hk:aw w w'):cw base T size R w' v l:=by
 obtain⟨css,h1,h2,h3,h4⟩:=h
 exact⟨css,h1,h2,fun i cs x hc hx=>hR _ _ _ _ (h3 i cs x hc hx) hk,h4.kept hg hne⟩
theorem cw.rows (h:cw base T size R w v l):Rows size T R w v l:=by
 obtain⟨css,h1,h2,h3,h4⟩:=h
 obtain⟨ao,c,e,hc1,hc2,hc3⟩:=rd h4
 subst e
 refine⟨ao,c,rfl,hc1,hc2,hc3,fun a ea hn=>?_,fun i x hx=>?_⟩
 ·exact owns_ty h4 (by rw[ea];rfl)
 ·have hi:i < l.length:=(List.getElem?_eq_some_iff.1 hx).1
  obtain⟨g,c',hv,_,_⟩:=h4.form (by omega)
  injection hv with hv _ _
  subst hv
  have hcs:css[i]?=some (css[i]'(by omega)):=List.getElem?_eq_getElem (by omega)
  refine⟨g,0,css[i]'(by omega),rfl,h2 _ (List.getElem_mem _),fun j u hu=>?_,h3 i _ x hcs hx⟩
  have hj:j < size:=by
   have:=(List.getElem?_eq_some_iff.1 hu).1
   rw[h2 _ (List.getElem_mem _)] at this
   exact this
  have hf:=js css h2 i j _ hcs hj
  rw[hu] at hf
  have:=h4.cells (g:=g) rfl _ _ hf
  rw[iy,←Nat.add_assoc] at this
  exact this
theorem cw.push (hR:ir R) {css:List (List Value)} (h1:css.length=l.length) (h2:∀cs∈css,cs.length=size) (h3:∀(i:Nat) (cs:List Value) (x:α),css[i]?=some cs→l[i]?=some x→R w cs x) {v':Value} {cs:List Value} {x:α} (hl:cs.length=size) (hx:R w cs x)
  (hown:w'.ownsRow base T size v' (l.length + 1) (css.flatten ++ cs)) (hk:aw w w'):cw base T size R w' v' (l ++ [x]):=by
 refine⟨css ++ [cs],by simp[h1],?_,?_,?_⟩
 ·intro c hc
  rcases List.mem_append.1 hc with h|h
  ·exact h2 c h
  ·simp at h;rw[h];exact hl
 ·intro i c y hc hy
  by_cases hi:i < l.length
  ·rw[List.getElem?_append_left (by omega)] at hc
   rw[List.getElem?_append_left hi] at hy
   exact hR _ _ _ _ (h3 i c y hc hy) hk
  ·have hi':i=l.length:=by
    have:=(List.getElem?_eq_some_iff.1 hy).1
    simp at this
    omega
   subst hi'
   rw[List.getElem?_append_right (by omega),h1] at hc
   rw[List.getElem?_append_right (ag _)] at hy
   simp at hc hy
   subst hc hy
   exact hR _ _ _ _ hx hk
 ·simpa using hown
end
end Go.Proofs.YtbnomdlojmgigaaGreat
namespace Go.Proofs.YtbnomdlojmgigaaGreat
abbrev Pt:=Int × Int
def ptZ (l:List Pt) (i:Nat):Pt:=l.getD i (0,0)
def crZ (a b:Pt):Int:=a.1 * b.2 - a.2 * b.1
def dtZ (a b:Pt):Int:=a.1 * b.1 + a.2 * b.2
def mnZ (a b:Pt):Pt:=(a.1 - b.1,a.2 - b.2)
def sgZ (n:Int):Int:=if n < 0 then -1 else if 0 < n then 1 else 0
def sdZ (a b c:Pt):Int:=sgZ (crZ (mnZ b a) (mnZ c a))
def tnZ (a b c:Pt):Int:=(b.1 - a.1) * (c.2 - a.2) - (b.2 - a.2) * (c.1 - a.1)
theorem tn_cr (a b c:Pt):tnZ a b c=crZ (mnZ b a) (mnZ c a):=rfl
theorem sgi_zero {n:Int}:sgZ n=0↔n=0:=by unfold sgZ;split<;>(try split)<;>omega
theorem sgi_neg {n:Int}:sgZ n < 0↔n < 0:=by unfold sgZ;split<;>(try split)<;>omega
def hsZ (a b q:Pt):Bool:=decide (sdZ a b q=0) && decide (dtZ (mnZ a q) (mnZ b q)≤0)
def onZ (a b c:Pt):Bool:=decide (tnZ a b c=0) && (decide (min a.1 b.1≤c.1) && (decide (c.1≤max a.1 b.1) && (decide (min a.2 b.2≤c.2) && decide (c.2≤max a.2 b.2))))
theorem vw {x y:Int}:x * y≤0↔(x≤0∧0≤y)∨(0≤x∧y≤0):=by
 constructor
 ·intro h
  by_cases hx:x≤0
  ·by_cases hy:0≤y
   ·exact .inl ⟨hx,hy⟩
   ·by_cases h0:x=0
    ·subst h0;exact .inr ⟨by omega,by omega⟩
    ·have:=Int.mul_pos (show 0 < -x by omega) (show 0 < -y by omega)
     rw[Int.neg_mul_neg] at this
     omega
  ·by_cases hy:y≤0
   ·exact .inr ⟨by omega,hy⟩
   ·have:=Int.mul_pos (show 0 < x by omega) (show 0 < y by omega)
    omega
 ·rintro (⟨h1,h2⟩|⟨h1,h2⟩)
  ·have:=Int.mul_nonneg (show 0≤ -x by omega) h2
   rw[Int.neg_mul] at this;omega
  ·have:=Int.mul_nonneg h1 (show 0≤ -y by omega)
   rw[Int.mul_neg] at this;omega
theorem yg (x:Int):0≤x * x:=by
 by_cases h:0≤x
 ·exact Int.mul_nonneg h h
 ·have:=Int.mul_nonneg (show 0≤ -x by omega) (show 0≤ -x by omega)
  rwa [Int.neg_mul_neg] at this
theorem line_dot {u v:Pt} (h:u.1 * v.2=u.2 * v.1):u.1 * v.1 + u.2 * v.2≤0↔u.1 * v.1≤0∧u.2 * v.2≤0:=by
 constructor
 ·intro hs
  have e:(u.1 * v.1) * (u.2 * v.2)=(u.1 * v.2) * (u.1 * v.2):=by
   calc (u.1 * v.1) * (u.2 * v.2)=(u.1 * v.2) * (u.2 * v.1):=by ac_rfl
    _=(u.1 * v.2) * (u.1 * v.2):=by rw[h]
  have hq:=yg (u.1 * v.2)
  rw[←e] at hq
  by_cases h1:u.1 * v.1≤0
  ·refine⟨h1,?_⟩
   by_cases h2:u.2 * v.2≤0
   ·exact h2
   ·by_cases h3:u.1 * v.1=0
    ·omega
    ·have:=Int.mul_pos (show 0 < -(u.1 * v.1) by omega) (show 0 < u.2 * v.2 by omega)
     rw[Int.neg_mul] at this;omega
  ·by_cases h2:u.2 * v.2=0
   ·omega
   ·have:=Int.mul_pos (show 0 < u.1 * v.1 by omega) (show 0 < -(u.2 * v.2) by omega)
    rw[Int.mul_neg] at this;omega
 ·rintro ⟨h1,h2⟩;omega
theorem cr_line (a b q:Pt):crZ (mnZ b a) (mnZ q a)=(mnZ a q).1 * (mnZ b q).2 - (mnZ a q).2 * (mnZ b q).1:=by
 unfold crZ mnZ
 simp only
 have e:∀a1 a2 b1 b2 q1 q2:Int,(b1 - a1) * (q2 - a2) - (b2 - a2) * (q1 - a1)=(a1 - q1) * (b2 - q2) - (a2 - q2) * (b1 - q1):=by
  intro a1 a2 b1 b2 q1 q2
  simp only[Int.sub_mul,Int.mul_sub]
  have c1:=Int.mul_comm b1 a2;have c2:=Int.mul_comm b2 a1;have c3:=Int.mul_comm b1 q2;have c4:=Int.mul_comm b2 q1;have c5:=Int.mul_comm a1 q2;have c6:=Int.mul_comm a2 q1;have c7:=Int.mul_comm a1 a2;have c8:=Int.mul_comm q1 q2
  omega
 exact e _ _ _ _ _ _
theorem mw (a b q:Pt):hsZ a b q=onZ a b q:=by
 unfold hsZ onZ
 rw[Bool.eq_iff_iff]
 simp only[Bool.and_eq_true,decide_eq_true_eq]
 unfold sdZ
 rw[sgi_zero,tn_cr]
 refine and_congr_right fun h=>?_
 have h0:=cr_line a b q
 have hl:(mnZ a q).1 * (mnZ b q).2=(mnZ a q).2 * (mnZ b q).1:=by omega
 unfold dtZ
 rw[line_dot hl,vw,vw]
 unfold mnZ
 simp only
 omega
def meZ (a b c d:Pt):Bool:=(hsZ a b c || (hsZ a b d || (hsZ c d a || hsZ c d b))) || (decide (sdZ a b c * sdZ a b d < 0) && decide (sdZ c d a * sdZ c d b < 0))
def mtZ (a b c d:Pt):Bool:=(onZ a b c || (onZ a b d || (onZ c d a || onZ c d b))) || (decide (sgZ (tnZ a b c) * sgZ (tnZ a b d) < 0) && decide (sgZ (tnZ c d a) * sgZ (tnZ c d b) < 0))
theorem me_mt (a b c d:Pt):meZ a b c d=mtZ a b c d:=by
 unfold meZ mtZ
 rw[mw,mw,mw,mw]
 rfl
end Go.Proofs.YtbnomdlojmgigaaGreat
namespace Go.Proofs.YtbnomdlojmgigaaGreat
def rtB (p:Pt):Bool:=decide (-1048576≤p.1) && decide (p.1≤1048576) && (decide (-1048576≤p.2) && decide (p.2≤1048576))
def qm (l:List Pt) (i:Nat):Bool:=
 decide (crZ (mnZ (ptZ l ((i + l.length - 1) % l.length)) (ptZ l i)) (mnZ (ptZ l ((i + 1) % l.length)) (ptZ l i))=0) && decide (0≤dtZ (mnZ (ptZ l ((i + l.length - 1) % l.length)) (ptZ l i)) (mnZ (ptZ l ((i + 1) % l.length)) (ptZ l i)))
def sw (l:List Pt) (i:Nat):Bool:=
 decide (tnZ (ptZ l i) (ptZ l ((i + 1) % l.length)) (ptZ l ((i + 1 + 1) % l.length))=0) && decide (0≤dtZ (mnZ (ptZ l i) (ptZ l ((i + 1) % l.length))) (mnZ (ptZ l ((i + 1 + 1) % l.length)) (ptZ l ((i + 1) % l.length))))
def oz (l:List Pt) (i k:Nat):Bool:=decide (i + 1 < k) && (!(decide (i=0) && decide (k=l.length - 1)) && meZ (ptZ l i) (ptZ l ((i + 1) % l.length)) (ptZ l k) (ptZ l ((k + 1) % l.length)))
def kr (l:List Pt) (i k:Nat):Bool:=decide (i + 2≤k) && (decide ((k + 1) % l.length≠i) && mtZ (ptZ l i) (ptZ l ((i + 1) % l.length)) (ptZ l k) (ptZ l ((k + 1) % l.length)))
def uj (l:List Pt) (i:Nat):Bool:=qm l i || (List.range l.length).any (oz l i)
def zp (l:List Pt) (i:Nat):Bool:=sw l i || (List.range l.length).any (kr l i)
def fl (l:List Pt):Int:=if l.length < 3 then 4 else if 16 < l.length then 4 else if l.all rtB=true then (if (List.range l.length).any (uj l)=true then 20 else 0) else 1
def rl (l:List Pt):Int:=if l.length < 3 then 4 else if 16 < l.length then 4 else if l.all rtB=true then (if (List.range l.length).any (zp l)=true then 20 else 0) else 1
theorem fold_tn (a b c:Pt):crZ (mnZ a b) (mnZ c b)= -tnZ a b c:=by
 unfold crZ mnZ tnZ
 simp only[Int.sub_mul,Int.mul_sub]
 have c1:=Int.mul_comm a.1 c.2;have c2:=Int.mul_comm a.1 b.2;have c3:=Int.mul_comm b.1 c.2;have c4:=Int.mul_comm b.1 b.2;have c5:=Int.mul_comm a.2 c.1;have c6:=Int.mul_comm a.2 b.1;have c7:=Int.mul_comm b.2 c.1;have c8:=Int.mul_comm a.1 a.2
 omega
theorem mod_back {i n:Nat} (h:i < n):(i + 1 + n - 1) % n=i:=by
 rw[show i + 1 + n - 1=i + n by omega,Nat.add_mod_right,Nat.mod_eq_of_lt h]
theorem fold_next (l:List Pt) {i:Nat} (hi:i < l.length):qm l ((i + 1) % l.length)=sw l i:=by
 have hn:0 < l.length:=by omega
 have e1:((i + 1) % l.length + l.length - 1) % l.length=i:=by
  by_cases h:i + 1 < l.length
  ·rw[Nat.mod_eq_of_lt h];exact mod_back hi
  ·have:i + 1=l.length:=by omega
   rw[this,Nat.mod_self,Nat.zero_add,Nat.mod_eq_of_lt (by omega)];omega
 have e2:((i + 1) % l.length + 1) % l.length=(i + 1 + 1) % l.length:=by rw[Nat.mod_add_mod]
 unfold qm sw
 rw[e1,e2,fold_tn]
 congr 1
 rw[decide_eq_decide]
 omega
theorem pair_eq (l:List Pt) {i k:Nat} (hi:i < l.length) (hk:k < l.length):oz l i k=kr l i k:=by
 unfold oz kr
 rw[me_mt,Bool.eq_iff_iff]
 simp only[Bool.and_eq_true,decide_eq_true_eq,Bool.not_eq_true',Bool.and_eq_false_imp,decide_eq_false_iff_not]
 by_cases h:i + 1 < k
 ·have e:(¬ (k + 1) % l.length=i)↔(i=0→¬ k=l.length - 1):=by
   by_cases hk1:k + 1 < l.length
   ·rw[Nat.mod_eq_of_lt hk1];omega
   ·rw[show k + 1=l.length by omega,Nat.mod_self];omega
  constructor
  ·rintro ⟨h1,h2,h3⟩;exact⟨by omega,e.2 h2,h3⟩
  ·rintro ⟨h1,h2,h3⟩;exact⟨h,e.1 h2,h3⟩
 ·constructor
  ·rintro ⟨h1,_⟩;exact absurd h1 h
  ·rintro ⟨h1,_⟩;omega
theorem any_bad (l:List Pt):(List.range l.length).any (uj l)=(List.range l.length).any (zp l):=by
 rw[Bool.eq_iff_iff]
 simp only[List.any_eq_true,List.mem_range]
 constructor
 ·rintro ⟨i,hi,h⟩
  unfold uj at h
  rcases Bool.or_eq_true _ _ ▸ h with h|h
  ·
   refine⟨(i + l.length - 1) % l.length,Nat.mod_lt _ (by omega),?_⟩
   have hj:(i + l.length - 1) % l.length < l.length:=Nat.mod_lt _ (by omega)
   have e:((i + l.length - 1) % l.length + 1) % l.length=i:=by
    rw[Nat.mod_add_mod,show i + l.length - 1 + 1=i + l.length by omega,Nat.add_mod_right,Nat.mod_eq_of_lt hi]
   unfold zp
   rw[←fold_next l hj,e,h,Bool.true_or]
  ·refine⟨i,hi,?_⟩
   unfold zp
   obtain⟨k,hk,hp⟩:=List.any_eq_true.1 h
   rw[pair_eq l hi (List.mem_range.1 hk)] at hp
   rw[List.any_eq_true.2 ⟨k,hk,hp⟩,Bool.or_true]
 ·rintro ⟨i,hi,h⟩
  unfold zp at h
  rcases Bool.or_eq_true _ _ ▸ h with h|h
  ·refine⟨(i + 1) % l.length,Nat.mod_lt _ (by omega),?_⟩
   unfold uj
   rw[fold_next l hi,h,Bool.true_or]
  ·refine⟨i,hi,?_⟩
   unfold uj
   obtain⟨k,hk,hp⟩:=List.any_eq_true.1 h
   rw[←pair_eq l hi (List.mem_range.1 hk)] at hp
   rw[List.any_eq_true.2 ⟨k,hk,hp⟩,Bool.or_true]
theorem chk_val (l:List Pt):fl l=rl l:=by unfold fl rl;rw[any_bad]
end Go.Proofs.YtbnomdlojmgigaaGreat
