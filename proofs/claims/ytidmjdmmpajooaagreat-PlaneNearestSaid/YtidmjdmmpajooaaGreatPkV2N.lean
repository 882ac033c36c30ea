/-
  What a walk over functions of fractions wants: blocks known whole ('Bx'), what keeps the digits of numbers ('KeepD'), worlds taken for a letter, results. No function of the program is in sight here.
-/
import Derived.Test.YtidmjdmmpajooaaGreatPkV1N
import Derived.Test.YtidmjdmmpajooaaGreatPkV0N
import Derived.Handy
import Derived.RangeFuncOwn
import Derived.Deep.RegionHeld3
import Derived.Below
set_option linter.unusedSimpArgs false
set_option linter.unusedVariables false
namespace Go.Proofs.YtidmjdmmpajooaaGreat
open Go.RowKit Dg
theorem Calls.abs {P:Program} {f:FuncId} {args:Array Value} {w:World} {R:Ending→World→Prop} (h:∀w',w'=w→Calls P f args w' R):Calls P f args w R:=h w rfl
theorem Code.abs {P:Program} {c:Code} {Q:Exit→Act→World→Prop} {a:Act} {w:World} (h:∀w',w'=w→c.wp P Q a w'):c.wp P Q a w:=h w rfl
theorem bodyPost.abs {P:Program} {fn:Func} {R:Ending→World→Prop} {e:Exit} {a:Act} {w:World} (h:∀w',w'=w→bodyPost P fn R e a w'):bodyPost P fn R e a w:=h w rfl
theorem wpList.abs {P:Program} {ops:Array Oper} {Q:Exit→Act→World→Prop} {l:List Oper} {a:Act} {w:World} (h:∀w',w'=w→wpList P ops Q l a w'):wpList P ops Q l a w:=h w rfl
def Bx (w:World) (g:Nat) (t:TypeId) (cs:Array Value):Prop:=w.heap[g]?=some (.cells cs t (0,0))
section
variable {w w':World} {g:Nat} {t:TypeId} {cs:Array Value}
theorem Bx.lt (h:Bx w g t cs):g < w.heap.size:=lt_of_block h
theorem Bx.ty (h:Bx w g t cs):TyB t w g:=⟨cs,(0,0),h⟩
theorem Bx.at (h:Bx w g t cs) (i:Nat) {v:Value} (hv:cs[i]?=some v):w.cell? ⟨g,i,none⟩=some v:=by rw[cell_of_row w g i cs t (0,0) h];exact hv
theorem Bx.news {l:List Value} (h:Bx w g t l.toArray):∀j u,l[j]?=some u→w.cell? ((⟨g,0,none⟩:Addr).add j)=some u:=fun j u hu=>by
 rw[iy,Nat.zero_add];exact h.at j (by simpa using hu)
theorem Bx.free (h:Bx w g t cs) (i:Nat):w.frozen? ⟨g,i,none⟩=false:=by
 unfold Bx at h
 simp[World.frozen?,h]
theorem Bx.new (w:World) (t:TypeId) (cs:Array Value):Bx (w.alloc (.cells cs t)) w.heap.size t cs:=heap_alloc_new w _
theorem Bx.new' (w:World) (t:TypeId) (cs:Array Value) (g:Nat) (hg:g=w.heap.size):Bx (w.alloc (.cells cs t)) g t cs:=by subst hg;exact heap_alloc_new w _
theorem Bx.drew (h:Bx w g t cs):Bx w.drew g t cs:=h
theorem Bx.drewN (h:Bx w g t cs) (n:Nat):Bx (w.drewN n) g t cs:=h
theorem Bx.alloc (h:Bx w g t cs) (o:Obj):Bx (w.alloc o) g t cs:=(Below.heap_alloc w o g h.lt).trans h
theorem Bx.set (h:Bx w g t cs) (i:Nat) (u:Value) {cs':Array Value} (hc:cs.setIfInBounds i u=cs'):Bx (w.setCell ⟨g,i,none⟩ u) g t cs':=by
 subst hc
 unfold Bx at h ⊢
 simp[World.setCell,Array.getElem?_modify,h]
theorem Bx.far (h:Bx w g t cs) {p:Addr} (hp:g≠p.block) (u:Value):Bx (w.setCell p u) g t cs:=(Below.heap_setCell w p u g hp).trans h
theorem Bx.mono (h:Bx w g t cs) (hb:Below w.heap.size w w'):Bx w' g t cs:=(hb.block g h.lt).trans h
theorem Bx.grown {row:Option Nat} (h:Bx w g t cs) (hb:w.grownBy w' row) (hg:some g≠row):Bx w' g t cs:=(hb.block g h.lt hg).trans h
theorem Bx.only {T:TypeId} (h:Bx w g t cs) (ho:dg T w w') (hne:T≠t):Bx w' g t cs:=(ho.block g h.lt (fun hT=>(TyB.ne hT h.ty hne) rfl)).trans h
end
structure aw (w w':World):Prop where
 size:w.heap.size≤w'.heap.size
 block:∀k t,TyB t w k→(t=95∨t=152)→w'.heap[k]?=w.heap[k]?
theorem aw.refl (w:World):aw w w:=⟨Nat.le_refl _,fun _ _ _ _=>rfl⟩
theorem aw.ty {w w':World} (h:aw w w') {k:Nat} {t:TypeId} (hk:TyB t w k) (ht:t=95∨t=152):TyB t w' k:=by
 obtain⟨cs,fr,h1⟩:=id hk
 exact⟨cs,fr,(h.block k t hk ht).trans h1⟩
theorem aw.trans {a b c:World} (h:aw a b) (h':aw b c):aw a c:=
 ⟨Nat.le_trans h.size h'.size,fun k t hk ht=>(h'.block k t (h.ty hk ht) ht).trans (h.block k t hk ht)⟩
theorem aw.of_below {w w':World} (h:Below w.heap.size w w'):aw w w':=⟨h.size,fun k _ hk _=>h.block k hk.lt⟩
theorem aw.below {a w w':World} (h:aw a w) (hb:Below w.heap.size w w'):aw a w':=h.trans (.of_below hb)
theorem aw.alloc {a w:World} (h:aw a w) (o:Obj):aw a (w.alloc o):=h.below ((Below.refl _ _).alloc (Nat.le_refl _) o)
theorem aw.drew {a w:World} (h:aw a w):aw a w.drew:=h.below (Below.refl _ _).drew
theorem aw.drewN {a w:World} (h:aw a w) (n:Nat):aw a (w.drewN n):=h.below (it (Below.refl _ _) n)
theorem aw.of_only {w w':World} {T:TypeId} (h:dg T w w') (hT:T≠95∧T≠152):aw w w':=
 ⟨h.size,fun k t hk ht=>h.block k hk.lt (fun hT'=>by
  rcases ht with rfl|rfl
  ·exact TyB.ne hT' hk hT.1 rfl
  ·exact TyB.ne hT' hk hT.2 rfl)⟩
theorem aw.set {a w:World} {g:Nat} {T:TypeId} (h:aw a w) (hg:TyB T w g) (hT:T≠95∧T≠152) (j:Nat) (u:Value):aw a (w.setCell ⟨g,j,none⟩ u):=
 h.trans (.of_only (dg.store hg j u) hT)
theorem aw.owns {w w':World} {base:Nat} {e:TypeId} {size:Nat} {v:Value} {n:Nat} {xs:List Value} (h:w.ownsRow base e size v n xs) (hg:w.grownBy w' v.ownBlock) (he:e≠95∧e≠152):aw w w':=
 .of_only (iu h hg) he
theorem TyB.alloc {t:TypeId} {w:World} {g:Nat} (h:TyB t w g) (o:Obj):TyB t (w.alloc o) g:=h.mono ((Below.refl _ _).alloc (Nat.le_refl _) o)
theorem TyB.drew {t:TypeId} {w:World} {g:Nat} (h:TyB t w g):TyB t w.drew g:=h
theorem ck.keep {k:IntKind} {B:Nat} {w w':World} {v:Value} {x:Nat} (h:ck k B w v x) (hk:aw w w') (ht:tyOf k=95∨tyOf k=152:=by first|exact .inl rfl|exact .inr rfl):ck k B w' v x:=by
 obtain⟨ao,n,c,l,e,hs,hc,hv⟩:=h
 refine⟨ao,n,c,l,e,⟨hs.len,hs.cap,hs.max,?_,hs.nil,fun a e' hn=>hk.ty (hs.ty a e' hn) ht⟩,hc,hv⟩
 intro i hi
 obtain⟨b,o,e',hcl⟩:=hs.cells i hi
 refine⟨b,o,e',fun j hj=>?_⟩
 have h1:=hcl j hj
 exact (World.cell?_of_block (hk.block b _ (hs.ty _ e' (by have:=hs.len;omega)) ht)).trans h1
def PV (w:World) (v:Value) (q:Rat):Prop:=
 ∃vn vd,v=.agg #[.bool (ng q),vn,vd]∧ck .u64 18446744073709551616 w vn q.num.natAbs∧ck .u64 18446744073709551616 w vd (if q.den=1 then 0 else q.den)
theorem PV.mono {w w':World} {v:Value} {q:Rat} (h:PV w v q) (hb:Below w.heap.size w w'):PV w' v q:=by
 obtain⟨vn,vd,e,h1,h2⟩:=h
 exact⟨vn,vd,e,h1.mono hb,h2.mono hb⟩
theorem PV.keep {w w':World} {v:Value} {q:Rat} (h:PV w v q) (hk:aw w w'):PV w' v q:=by
 obtain⟨vn,vd,e,h1,h2⟩:=h
 exact⟨vn,vd,e,h1.keep hk (.inl rfl),h2.keep hk (.inl rfl)⟩
theorem RV.keep {w w':World} {v:Value} {q:Rat} (h:RV w v q) (hk:aw w w'):RV w' v q:=by
 obtain⟨vn,vd,d,e,h1,h2,h3⟩:=h
 exact⟨vn,vd,d,e,h1.keep hk (.inr rfl),h2.keep hk (.inr rfl),h3⟩
theorem PV.shape {w:World} {v:Value} {q:Rat} (h:PV w v q):∃s a1 n1 c1 a2 n2 c2,v=.agg #[.bool s,.slice a1 n1 c1,.slice a2 n2 c2]:=by
 obtain⟨vn,vd,e,⟨a1,n1,c1,l1,rfl,_⟩,⟨a2,n2,c2,l2,rfl,_⟩⟩:=h
 exact⟨_,_,_,_,_,_,_,e⟩
theorem RV.shape {w:World} {v:Value} {q:Rat} (h:RV w v q):∃s a1 n1 c1 a2 n2 c2,v=.agg #[.bool s,.slice a1 n1 c1,.slice a2 n2 c2]:=by
 obtain⟨vn,vd,d,e,⟨a1,n1,c1,l1,rfl,_⟩,⟨a2,n2,c2,l2,rfl,_⟩,_⟩:=h
 exact⟨_,_,_,_,_,_,_,e⟩
theorem ck.shape {k:IntKind} {B:Nat} {w:World} {v:Value} {x:Nat} (h:ck k B w v x):∃a n c,v=.slice a n c:=by
 obtain⟨a,n,c,l,e,_⟩:=h
 exact⟨_,_,_,e⟩
theorem PV.parts {w:World} {q:Rat} {s v1 v2:Value} (h:PV w (.agg #[s,v1,v2]) q):s=.bool (ng q)∧ck .u64 18446744073709551616 w v1 q.num.natAbs∧ck .u64 18446744073709551616 w v2 (if q.den=1 then 0 else q.den):=by
 obtain⟨vn,vd,e,h1,h2⟩:=h
 injection e with e
 injection e with e
 injection e with e1 e
 injection e with e2 e
 injection e with e3 e
 subst e1 e2 e3
 exact⟨rfl,h1,h2⟩
theorem PV.sign {w:World} {q:Rat} {s:Bool} {v1 v2:Value} (h:PV w (.agg #[.bool s,v1,v2]) q):s=ng q:=by
 have:=h.parts.1
 injection this
theorem PV.mk' {w:World} {q:Rat} {b:Bool} {v1 v2:Value} {n d:Nat} (h1:ck .u64 18446744073709551616 w v1 n) (h2:ck .u64 18446744073709551616 w v2 d) (hb:b=ng q) (hn:n=q.num.natAbs) (hd:d=if q.den=1 then 0 else q.den):PV w (.agg #[.bool b,v1,v2]) q:=by
 subst hb hn hd
 exact⟨v1,v2,rfl,h1,h2⟩
def Ret1 (R:World→Value→Prop) (w:World) (e:Ending) (w':World):Prop:=∃v,e=.returned v∧R w' v∧Below w.heap.size w w'
def Ret2 (R1 R2:World→Value→Prop) (w:World) (e:Ending) (w':World):Prop:=∃v1 v2,e=.returned (.tuple #[v1,v2])∧R1 w' v1∧R2 w' v2∧Below w.heap.size w w'
def mp (w:World) (q:Rat) (e:Ending) (w':World):Prop:=∃v,e=.returned v∧PV w' v q∧Below w.heap.size w w'
def RetPE (w:World) (q:Rat) (err:Int) (e:Ending) (w':World):Prop:=∃v,e=.returned (.tuple #[v,.int .i64 err])∧PV w' v q∧Below w.heap.size w w'
def fj (w:World) (v:Value) (e:Ending) (w':World):Prop:=e=.returned v∧Below w.heap.size w w'
theorem bh {w:World} {a:Addr} {v u:Value} {p:Addr} (h:w.cell? a=some v) (hne:a.block≠p.block):(w.setCell p u).cell? a=some v:=by
 rw[World.cell?_setCell_other _ _ _ _ (by intro e;subst e;exact hne rfl)];exact h
theorem dh {w:World} {a:Addr} {v:Value} (h:w.cell? a=some v) (o:Obj):(w.alloc o).cell? a=some v:=by
 rw[World.cell?_alloc_lt _ _ _ (jw h)];exact h
theorem ah {w w':World} {a:Addr} {v:Value} (h:w.cell? a=some v) (hb:Below w.heap.size w w'):w'.cell? a=some v:=by
 rw[hb.cell (p:=a) (jw h)];exact h
theorem ar {w W W':World} (h:Below w.heap.size w W) (hb:Below W.heap.size W W'):Below w.heap.size w W':=Below.trans h (hb.mono (Below.size h))
theorem de (w:World):Below w.heap.size w w.drew:=(Below.refl _ _).drew
def SzP (K:Nat) (q:Rat):Prop:=q.num.natAbs < 18446744073709551616 ^ K∧q.den < 18446744073709551616 ^ K
def Fit (q:Rat):Prop:=SzQ 134217728 q
theorem SzQ.p {K:Nat} {q:Rat} (h:SzQ K q):SzP K q:=
 ⟨Nat.lt_of_lt_of_le h.1 (Nat.pow_le_pow_left (by omega) K),Nat.lt_of_lt_of_le h.2 (Nat.pow_le_pow_left (by omega) K)⟩
theorem Fit.p {q:Rat} (h:Fit q):SzP 134217728 q:=SzQ.p h
theorem SzQ.fit {K:Nat} {q:Rat} (h:SzQ K q) (hK:K≤134217728:=by omega):Fit q:=h.mono hK
theorem ji {K L a b:Nat} (ha:a < 18446744073709551616 ^ K) (hb:b < 18446744073709551616 ^ L):a * b < 18446744073709551616 ^ (K + L):=by
 rw[Nat.pow_add]
 rcases Nat.eq_zero_or_pos b with h|h
 ·subst h;exact Nat.mul_pos (Nat.pow_pos (by omega)) (Nat.pow_pos (by omega))
 ·exact Nat.lt_of_lt_of_le (Nat.mul_lt_mul_of_pos_right ha h) (Nat.mul_le_mul_left _ (Nat.le_of_lt hb))
theorem pow_add_ltP {K a b:Nat} (ha:a < 18446744073709551616 ^ K) (hb:b < 18446744073709551616 ^ K):a + b < 18446744073709551616 ^ (K + 1):=by
 have:0 < 18446744073709551616 ^ K:=Nat.pow_pos (by omega)
 rw[Nat.pow_succ]
 omega
theorem Bx.a0 {w:World} {g:Nat} {t:TypeId} {a0:Value} {l:List Value} (h:Bx w g t (a0 ::l).toArray):w.cell? ⟨g,0,none⟩=some a0:=h.at 0 rfl
theorem Bx.a1 {w:World} {g:Nat} {t:TypeId} {a0:Value} {a1:Value} {l:List Value} (h:Bx w g t (a0 ::a1 ::l).toArray):w.cell? ⟨g,1,none⟩=some a1:=h.at 1 rfl
theorem Bx.a2 {w:World} {g:Nat} {t:TypeId} {a0:Value} {a1:Value} {a2:Value} {l:List Value} (h:Bx w g t (a0 ::a1 ::a2 ::l).toArray):w.cell? ⟨g,2,none⟩=some a2:=h.at 2 rfl
theorem Bx.a3 {w:World} {g:Nat} {t:TypeId} {a0:Value} {a1:Value} {a2:Value} {a3:Value} {l:List Value} (h:Bx w g t (a0 ::a1 ::a2 ::a3 ::l).toArray):w.cell? ⟨g,3,none⟩=some a3:=h.at 3 rfl
theorem Bx.a4 {w:World} {g:Nat} {t:TypeId} {a0:Value} {a1:Value} {a2:Value} {a3:Value} {a4:Value} {l:List Value} (h:Bx w g t (a0 ::a1 ::a2 ::a3 ::a4 ::l).toArray):w.cell? ⟨g,4,none⟩=some a4:=h.at 4 rfl
theorem Bx.a5 {w:World} {g:Nat} {t:TypeId} {a0:Value} {a1:Value} {a2:Value} {a3:Value} {a4:Value} {a5:Value} {l:List Value} (h:Bx w g t (a0 ::a1 ::a2 ::a3 ::a4 ::a5 ::l).toArray):w.cell? ⟨g,5,none⟩=some a5:=h.at 5 rfl
theorem Bx.a6 {w:World} {g:Nat} {t:TypeId} {a0:Value} {a1:Value} {a2:Value} {a3:Value} {a4:Value} {a5:Value} {a6:Value} {l:List Value} (h:Bx w g t (a0 ::a1 ::a2 ::a3 ::a4 ::a5 ::a6 ::l).toArray):w.cell? ⟨g,6,none⟩=some a6:=h.at 6 rfl
theorem Bx.a7 {w:World} {g:Nat} {t:TypeId} {a0:Value} {a1:Value} {a2:Value} {a3:Value} {a4:Value} {a5:Value} {a6:Value} {a7:Value} {l:List Value} (h:Bx w g t (a0 ::a1 ::a2 ::a3 ::a4 ::a5 ::a6 ::a7 ::l).toArray):w.cell? ⟨g,7,none⟩=some a7:=h.at 7 rfl
theorem Bx.a8 {w:World} {g:Nat} {t:TypeId} {a0:Value} {a1:Value} {a2:Value} {a3:Value} {a4:Value} {a5:Value} {a6:Value} {a7:Value} {a8:Value} {l:List Value} (h:Bx w g t (a0 ::a1 ::a2 ::a3 ::a4 ::a5 ::a6 ::a7 ::a8 ::l).toArray):w.cell? ⟨g,8,none⟩=some a8:=h.at 8 rfl
class Mv (A:Prop) (w w':World) (B:outParam Prop):Prop where
  mv:Below w.heap.size w w'→A→B
class Mk (A:Prop) (w w':World) (B:outParam Prop):Prop where
  mv:aw w w'→A→B
class MvS (A:Prop) (w w':World) (B:outParam Prop):Prop where
  mv:Below w.heap.size w w'→B→A
class MkS (A:Prop) (w w':World) (B:outParam Prop):Prop where
  mv:aw w w'→B→A
section
variable {w w':World}
instance {g:Nat} {t:TypeId} {c:Array Value}:Mv (Bx w g t c) w w' (Bx w' g t c):=⟨fun hb h=>h.mono hb⟩
instance {v:Value} {q:Rat}:Mv (PV w v q) w w' (PV w' v q):=⟨fun hb h=>h.mono hb⟩
instance {v:Value} {q:Rat}:Mv (RV w v q) w w' (RV w' v q):=⟨fun hb h=>h.mono hb⟩
instance {v:Value} {q:Rat}:Mk (PV w v q) w w' (PV w' v q):=⟨fun hb h=>h.keep hb⟩
instance {v:Value} {q:Rat}:Mk (RV w v q) w w' (RV w' v q):=⟨fun hb h=>h.keep hb⟩
instance (priority:=low) {G:Prop}:MvS G w w' G:=⟨fun _ h=>h⟩
instance (priority:=low) {G:Prop}:MkS G w w' G:=⟨fun _ h=>h⟩
instance {A B X Y:Prop} [Mv A w w' B] [MvS X w w' Y]:MvS (A→X) w w' (B→Y):=⟨fun hb h a=>MvS.mv hb (h (Mv.mv hb a))⟩
instance {A B X Y:Prop} [Mk A w w' B] [MkS X w w' Y]:MkS (A→X) w w' (B→Y):=⟨fun hb h a=>MkS.mv hb (h (Mk.mv hb a))⟩
theorem mo {X Y:Prop} [MvS X w w' Y] (hb:Below w.heap.size w w') (h:Y):X:=MvS.mv hb h
theorem ke {X Y:Prop} [MkS X w w' Y] (hk:aw w w') (h:Y):X:=MkS.mv hk h
theorem mS {u:World} {X Y:Prop} [MvS X w w' Y] (hs:Below u.heap.size u w) (hb:Below w.heap.size w w') (h:Below u.heap.size u w'→Y):X:=MvS.mv hb (h (Below.trans hs (hb.mono (Below.size hs))))
end
theorem Bx.k1l {w:World} {g:Nat} {t:TypeId} {a0:Value} {r:List Value} {G:Prop} (h:Bx w g t (a0 ::r).toArray) (k:w.cell? ⟨g,0,none⟩=some a0→g < w.heap.size→G):G:=k (h.at 0 rfl) h.lt
theorem Bx.k1f {w:World} {g:Nat} {t:TypeId} {a0:Value} {r:List Value} {G:Prop} (h:Bx w g t (a0 ::r).toArray) (k:w.cell? ⟨g,0,none⟩=some a0→(∀i:Nat,w.frozen? ⟨g,i,none⟩=false)→G):G:=k (h.at 0 rfl) h.free
theorem Bx.k1fl {w:World} {g:Nat} {t:TypeId} {a0:Value} {r:List Value} {G:Prop} (h:Bx w g t (a0 ::r).toArray) (k:w.cell? ⟨g,0,none⟩=some a0→(∀i:Nat,w.frozen? ⟨g,i,none⟩=false)→g < w.heap.size→G):G:=k (h.at 0 rfl) h.free h.lt
theorem Bx.k2 {w:World} {g:Nat} {t:TypeId} {a0 a1:Value} {r:List Value} {G:Prop} (h:Bx w g t (a0 ::a1 ::r).toArray) (k:w.cell? ⟨g,0,none⟩=some a0→w.cell? ⟨g,1,none⟩=some a1→G):G:=k (h.at 0 rfl) (h.at 1 rfl)
theorem Bx.k2l {w:World} {g:Nat} {t:TypeId} {a0 a1:Value} {r:List Value} {G:Prop} (h:Bx w g t (a0 ::a1 ::r).toArray) (k:w.cell? ⟨g,0,none⟩=some a0→w.cell? ⟨g,1,none⟩=some a1→g < w.heap.size→G):G:=k (h.at 0 rfl) (h.at 1 rfl) h.lt
theorem Bx.k2f {w:World} {g:Nat} {t:TypeId} {a0 a1:Value} {r:List Value} {G:Prop} (h:Bx w g t (a0 ::a1 ::r).toArray) (k:w.cell? ⟨g,0,none⟩=some a0→w.cell? ⟨g,1,none⟩=some a1→(∀i:Nat,w.frozen? ⟨g,i,none⟩=false)→G):G:=k (h.at 0 rfl) (h.at 1 rfl) h.free
theorem Bx.k2fl {w:World} {g:Nat} {t:TypeId} {a0 a1:Value} {r:List Value} {G:Prop} (h:Bx w g t (a0 ::a1 ::r).toArray) (k:w.cell? ⟨g,0,none⟩=some a0→w.cell? ⟨g,1,none⟩=some a1→(∀i:Nat,w.frozen? ⟨g,i,none⟩=false)→g < w.heap.size→G):G:=k (h.at 0 rfl) (h.at 1 rfl) h.free h.lt
theorem Bx.k3 {w:World} {g:Nat} {t:TypeId} {a0 a1 a2:Value} {r:List Value} {G:Prop} (h:Bx w g t (a0 ::a1 ::a2 ::r).toArray) (k:w.cell? ⟨g,0,none⟩=some a0→w.cell? ⟨g,1,none⟩=some a1→w.cell? ⟨g,2,none⟩=some a2→G):G:=k (h.at 0 rfl) (h.at 1 rfl) (h.at 2 rfl)
theorem Bx.k3l {w:World} {g:Nat} {t:TypeId} {a0 a1 a2:Value} {r:List Value} {G:Prop} (h:Bx w g t (a0 ::a1 ::a2 ::r).toArray) (k:w.cell? ⟨g,0,none⟩=some a0→w.cell? ⟨g,1,none⟩=some a1→w.cell? ⟨g,2,none⟩=some a2→g < w.heap.size→G):G:=k (h.at 0 rfl) (h.at 1 rfl) (h.at 2 rfl) h.lt
theorem Bx.k3f {w:World} {g:Nat} {t:TypeId} {a0 a1 a2:Value} {r:List Value} {G:Prop} (h:Bx w g t (a0 ::a1 ::a2 ::r).toArray) (k:w.cell? ⟨g,0,none⟩=some a0→w.cell? ⟨g,1,none⟩=some a1→w.cell? ⟨g,2,none⟩=some a2→(∀i:Nat,w.frozen? ⟨g,i,none⟩=false)→G):G:=k (h.at 0 rfl) (h.at 1 rfl) (h.at 2 rfl) h.free
theorem Bx.k3fl {w:World} {g:Nat} {t:TypeId} {a0 a1 a2:Value} {r:List Value} {G:Prop} (h:Bx w g t (a0 ::a1 ::a2 ::r).toArray) (k:w.cell? ⟨g,0,none⟩=some a0→w.cell? ⟨g,1,none⟩=some a1→w.cell? ⟨g,2,none⟩=some a2→(∀i:Nat,w.frozen? ⟨g,i,none⟩=false)→g < w.heap.size→G):G:=k (h.at 0 rfl) (h.at 1 rfl) (h.at 2 rfl) h.free h.lt
theorem Bx.k4 {w:World} {g:Nat} {t:TypeId} {a0 a1 a2 a3:Value} {r:List Value} {G:Prop} (h:Bx w g t (a0 ::a1 ::a2 ::a3 ::r).toArray) (k:w.cell? ⟨g,0,none⟩=some a0→w.cell? ⟨g,1,none⟩=some a1→w.cell? ⟨g,2,none⟩=some a2→w.cell? ⟨g,3,none⟩=some a3→G):G:=k (h.at 0 rfl) (h.at 1 rfl) (h.at 2 rfl) (h.at 3 rfl)
theorem Bx.k4l {w:World} {g:Nat} {t:TypeId} {a0 a1 a2 a3:Value} {r:List Value} {G:Prop} (h:Bx w g t (a0 ::a1 ::a2 ::a3 ::r).toArray) (k:w.cell? ⟨g,0,none⟩=some a0→w.cell? ⟨g,1,none⟩=some a1→w.cell? ⟨g,2,none⟩=some a2→w.cell? ⟨g,3,none⟩=some a3→g < w.heap.size→G):G:=k (h.at 0 rfl) (h.at 1 rfl) (h.at 2 rfl) (h.at 3 rfl) h.lt
theorem Bx.k4f {w:World} {g:Nat} {t:TypeId} {a0 a1 a2 a3:Value} {r:List Value} {G:Prop} (h:Bx w g t (a0 ::a1 ::a2 ::a3 ::r).toArray) (k:w.cell? ⟨g,0,none⟩=some a0→w.cell? ⟨g,1,none⟩=some a1→w.cell? ⟨g,2,none⟩=some a2→w.cell? ⟨g,3,none⟩=some a3→(∀i:Nat,w.frozen? ⟨g,i,none⟩=false)→G):G:=k (h.at 0 rfl) (h.at 1 rfl) (h.at 2 rfl) (h.at 3 rfl) h.free
theorem Bx.k4fl {w:World} {g:Nat} {t:TypeId} {a0 a1 a2 a3:Value} {r:List Value} {G:Prop} (h:Bx w g t (a0 ::a1 ::a2 ::a3 ::r).toArray) (k:w.cell? ⟨g,0,none⟩=some a0→w.cell? ⟨g,1,none⟩=some a1→w.cell? ⟨g,2,none⟩=some a2→w.cell? ⟨g,3,none⟩=some a3→(∀i:Nat,w.frozen? ⟨g,i,none⟩=false)→g < w.heap.size→G):G:=k (h.at 0 rfl) (h.at 1 rfl) (h.at 2 rfl) (h.at 3 rfl) h.free h.lt
theorem ae {p:Prop} (h:p):Hid p:=Lib.hid h
theorem ag (n:Nat):n≤n:=Nat.le_refl n
end Go.Proofs.YtidmjdmmpajooaaGreat
namespace Go.Proofs.YtidmjdmmpajooaaGreat
open Go.RowKit Dg
def jp (w:World) (b o:Nat) (cs:List Value):Prop:=∀j u,cs[j]?=some u→w.cell? ⟨b,o + j,none⟩=some u
def ir {α:Type} (R:World→List Value→α→Prop):Prop:=∀(w w':World) (cs:List Value) (x:α),R w cs x→aw w w'→R w' cs x
def Rows {α:Type} (size:Nat) (T:TypeId) (R:World→List Value→α→Prop) (w:World) (v:Value) (l:List α):Prop:=
 ∃ao c,v=.slice ao l.length c∧l.length≤c∧c≤9223372036854775807∧(ao=none→c=0)∧qu T w ao l.length∧
  ∀(i:Nat) (x:α),l[i]?=some x→∃b o cs,ao=some ⟨b,o,none⟩∧cs.length=size∧jp w b (o + i * size) cs∧R w cs x
theorem jp.mono {w w':World} {b o:Nat} {cs:List Value} (h:jp w b o cs) (hb:Below w.heap.size w w'):jp w' b o cs:=fun j u hu=>ah (h j u hu) hb
theorem jp.onlyT {w w':World} {b o:Nat} {cs:List Value} {T:TypeId} (h:jp w b o cs) (ho:dg T w w') (hn:¬ TyB T w b):jp w' b o cs:=fun j u hu=>ho.cell (h j u hu) hn
section
variable {α:Type} {size:Nat} {T:TypeId} {R:World→List Value→α→Prop} {w w':World} {v:Value} {l:List α}
theorem Rows.mono (hR:ir R) (h:Rows size T R w v l) (hb:Below w.heap.size w w'):Rows size T R w' v l:=by
 obtain⟨ao,c,e,h1,h2,h3,h4,h5⟩:=h
 refine⟨ao,c,e,h1,h2,h3,h4.mono hb,fun i x hx=>?_⟩
 obtain⟨b,o,cs,ea,hl,hc,hr⟩:=h5 i x hx
 exact⟨b,o,cs,ea,hl,hc.mono hb,hR _ _ _ _ hr (.of_below hb)⟩
theorem Rows.onlyT (hR:ir R) {t:TypeId} (h:Rows size T R w v l) (ho:dg t w w') (hne:t≠T) (hd:t≠95∧t≠152):Rows size T R w' v l:=by
 obtain⟨ao,c,e,h1,h2,h3,h4,h5⟩:=h
 refine⟨ao,c,e,h1,h2,h3,fun a ha hn=>ho.ty (h4 a ha hn) hne,fun i x hx=>?_⟩
 obtain⟨b,o,cs,ea,hl,hc,hr⟩:=h5 i x hx
 have hi:i < l.length:=(List.getElem?_eq_some_iff.1 hx).1
 have hb:=h4 _ ea (by omega)
 exact⟨b,o,cs,ea,hl,hc.onlyT ho (fun hT=>TyB.ne hT hb hne rfl),hR _ _ _ _ hr (.of_only ho hd)⟩
theorem Rows.slice (h:Rows size T R w v l):∃ao c,v=.slice ao l.length c∧l.length≤c∧c≤9223372036854775807∧(ao=none→c=0):=by
 obtain⟨ao,c,e,h1,h2,h3,_⟩:=h
 exact⟨ao,c,e,h1,h2,h3⟩
theorem Rows.get (h:Rows size T R w v l) {i:Nat} {x:α} (hx:l[i]?=some x):∃b o c cs,v=.slice (some ⟨b,o,none⟩) l.length c∧cs.length=size∧jp w b (o + i * size) cs∧R w cs x:=by
 obtain⟨ao,c,e,h1,h2,h3,h4,h5⟩:=h
 obtain⟨b,o,cs,ea,hl,hc,hr⟩:=h5 i x hx
 subst ea
 exact⟨b,o,c,cs,e,hl,hc,hr⟩
theorem Rows.open_ (h:Rows size T R w v l) (hl:0 < l.length):∃b o c,v=.slice (some ⟨b,o,none⟩) l.length c∧l.length≤c∧c≤9223372036854775807∧
  ∀(i:Nat) (x:α),l[i]?=some x→∃cs,cs.length=size∧jp w b (o + i * size) cs∧R w cs x:=by
 obtain⟨ao,c,e,h1,h2,h3,h4,h5⟩:=h
 obtain⟨b,o,cs,ea,_⟩:=h5 0 (l[0]'hl) (List.getElem?_eq_getElem hl)
 subst ea
 refine⟨b,o,c,e,h1,h2,fun i x hx=>?_⟩
 obtain⟨b',o',cs,ea,hl,hc,hr⟩:=h5 i x hx
 cases ea
 exact⟨cs,hl,hc,hr⟩
theorem Rows.lt {b o n c:Nat} {p:Option _} (h:Rows size T R w (.slice (some ⟨b,o,p⟩) n c) l) (hl:0 < l.length):b < w.heap.size:=by
 obtain⟨ao,c,e,h1,h2,h3,h4,h5⟩:=h
 injection e with e _ _
 subst e
 obtain⟨cs,fr,h6⟩:=h4 _ rfl hl
 exact lt_of_block h6
theorem Rows.take (h:Rows size T R w v l) (k:Nat):∀ao n c,v=.slice ao n c→k≤n→Rows size T R w (.slice ao k c) (l.take k):=by
 intro ao n c e hk
 obtain⟨ao',c',e',h1,h2,h3,h4,h5⟩:=h
 rw[e] at e'
 injection e' with ea en ec
 subst ea en ec
 have hl:(l.take k).length=k:=by rw[List.length_take];omega
 refine⟨ao,c,by rw[hl],by omega,h2,h3,h4.take (by omega),fun i x hx=>?_⟩
 rw[List.getElem?_take] at hx
 split at hx
 ·exact h5 i x hx
 ·cases hx
end
def be {α:Type} (size:Nat) (R:World→List Value→α→Prop) (w:World) (v:Value) (l:List α):Prop:=
 ∃ao c,v=.slice ao l.length c∧l.length≤c∧c≤9223372036854775807∧(ao=none→c=0)∧
  ∀(i:Nat) (x:α),l[i]?=some x→∃b o cs,ao=some ⟨b,o,none⟩∧cs.length=size∧jp w b (o + i * size) cs∧R w cs x
section
variable {α:Type} {size:Nat} {T:TypeId} {R:World→List Value→α→Prop} {w w':World} {v:Value} {l:List α}
theorem Rows.toI (h:Rows size T R w v l):be size R w v l:=by
 obtain⟨ao,c,e,h1,h2,h3,_,h5⟩:=h
 exact⟨ao,c,e,h1,h2,h3,h5⟩
theorem be.mono (hR:ir R) (h:be size R w v l) (hb:Below w.heap.size w w'):be size R w' v l:=by
 obtain⟨ao,c,e,h1,h2,h3,h5⟩:=h
 refine⟨ao,c,e,h1,h2,h3,fun i x hx=>?_⟩
 obtain⟨b,o,cs,ea,hl,hc,hr⟩:=h5 i x hx
 exact⟨b,o,cs,ea,hl,hc.mono hb,hR _ _ _ _ hr (.of_below hb)⟩
theorem be.slice (h:be size R w v l):∃ao c,v=.slice ao l.length c∧l.length≤c∧c≤9223372036854775807∧(ao=none→c=0):=by
 obtain⟨ao,c,e,h1,h2,h3,_⟩:=h
 exact⟨ao,c,e,h1,h2,h3⟩
theorem be.get (h:be size R w v l) {i:Nat} {x:α} (hx:l[i]?=some x):∃b o c cs,v=.slice (some ⟨b,o,none⟩) l.length c∧cs.length=size∧jp w b (o + i * size) cs∧R w cs x:=by
 obtain⟨ao,c,e,h1,h2,h3,h5⟩:=h
 obtain⟨b,o,cs,ea,hl,hc,hr⟩:=h5 i x hx
 subst ea
 exact⟨b,o,c,cs,e,hl,hc,hr⟩
end
theorem js {size:Nat}:∀(css:List (List Value)),(∀cs∈css,cs.length=size)→∀(i j:Nat) (cs:List Value),css[i]?=some cs→j < size→css.flatten[i * size + j]?=cs[j]?
 | [],_,i,j,cs,h,_=>by simp at h
 | c ::r,hs,i,j,cs,h,hj=>by
  have hc:c.length=size:=hs c (by simp)
  match i with
  | 0=>
   simp only[List.getElem?_cons_zero,Option.some.injEq] at h
   subst h
   rw[List.flatten_cons,List.getElem?_append_left (by omega),Nat.zero_mul,Nat.zero_add]
  | i + 1=>
   rw[List.getElem?_cons_succ] at h
   rw[List.flatten_cons,List.getElem?_append_right (by rw[hc,Nat.succ_mul];omega)]
   rw[show (i + 1) * size + j - c.length=i * size + j from by rw[hc,Nat.succ_mul];omega]
   exact js r (fun x hx=>hs x (List.mem_cons_of_mem _ hx)) i j cs h hj
theorem dz {size:Nat}:∀(css:List (List Value)),(∀cs∈css,cs.length=size)→css.flatten.length=css.length * size
 | [],_=>by simp
 | c ::r,hs=>by
  rw[List.flatten_cons,List.length_append,hs c (by simp),dz r (fun x hx=>hs x (List.mem_cons_of_mem _ hx)),List.length_cons,Nat.succ_mul]
  omega
def cw {α:Type} (base:Nat) (T:TypeId) (size:Nat) (R:World→List Value→α→Prop) (w:World) (v:Value) (l:List α):Prop:=
 ∃css:List (List Value),css.length=l.length∧(∀cs∈css,cs.length=size)∧(∀(i:Nat) (cs:List Value) (x:α),css[i]?=some cs→l[i]?=some x→R w cs x)∧w.ownsRow base T size v l.length css.flatten
section
variable {α:Type} {base:Nat} {size:Nat} {T:TypeId} {R:World→List Value→α→Prop} {w w':World} {v:Value} {l:List α}
theorem cw.nil (w:World) (base:Nat) (T:TypeId) (size:Nat) (R:World→List Value→α→Prop):cw base T size R w (.slice none 0 0) []:=
 ⟨[],rfl,by simp,by simp,World.ownsRow_nil _ _ _ _⟩
theorem cw.own (h:cw base T size R w v l):∃xs,w.ownsRow base T size v l.length xs:=by
 obtain⟨css,_,_,_,h⟩:=h
 exact⟨_,h⟩
theorem cw.slice (h:cw base T size R w v l):∃ao c,v=.slice ao l.length c∧l.length≤c∧c≤9223372036854775807∧(ao=none→c=0):=by
 obtain⟨css,_,_,_,h⟩:=h
 exact rd h
theorem cw.mono (hR:ir R) (h:cw base T size R w v l) (hb:Below w.heap.size w w'):cw base T size R w' v l:=by
 obtain⟨css,h1,h2,h3,h4⟩:=h
 exact⟨css,h1,h2,fun i cs x hc hx=>hR _ _ _ _ (h3 i cs x hc hx) (.of_below hb),qz h4 hb⟩
theorem cw.onlyT (hR:ir R) {t:TypeId} (h:cw base T size R w v l) (ho:dg t w w') (hne:t≠T) (hd:t≠95∧t≠152):cw base T size R w' v l:=by
 obtain⟨css,h1,h2,h3,h4⟩:=h
 exact⟨css,h1,h2,fun i cs x hc hx=>hR _ _ _ _ (h3 i cs x hc hx) (.of_only ho hd),jd8 h4 ho hne⟩
theorem cw.grown (hR:ir R) (h:cw base T size R w v l) {row:Option Nat} (hg:w.grownBy w' row) (hne:v.ownBlock=none∨v.ownBlock≠row) (hk:aw w w'):cw base T size R w' v l:=by
 obtain⟨css,h1,h2,h3,h4⟩:=h
 exact⟨css,h1,h2,fun i cs x hc hx=>hR _ _ _ _ (h3 i cs x hc hx) hk,h4.kept hg hne⟩
theorem cw.rows (h:cw base T size R w v l):Rows size T R w v l:=by
 obtain⟨css,h1,h2,h3,h4⟩:=h
 obtain⟨ao,c,e,hc1,hc2,hc3⟩:=rd h4
 subst e
 refine⟨ao,c,rfl,hc1,hc2,hc3,fun a ea hn=>?_,fun i x hx=>?_⟩
 ·exact owns_ty h4 (by rw[ea];rfl)
 ·have hi:i < l.length:=(List.getElem?_eq_some_iff.1 hx).1
  obtain⟨g,c',hv,_,_⟩:=h4.form (by omega)
  injection hv with hv _ _
  subst hv
  have hcs:css[i]?=some (css[i]'(by omega)):=List.getElem?_eq_getElem (by omega)
  refine⟨g,0,css[i]'(by omega),rfl,h2 _ (List.getElem_mem _),fun j u hu=>?_,h3 i _ x hcs hx⟩
  have hj:j < size:=by
   have:=(List.getElem?_eq_some_iff.1 hu).1
   rw[h2 _ (List.getElem_mem _)] at this
   exact this
  have hf:=js css h2 i j _ hcs hj
  rw[hu] at hf
  have:=h4.cells (g:=g) rfl _ _ hf
  rw[iy,←Nat.add_assoc] at this
  exact this
theorem cw.push (hR:ir R) {css:List (List Value)} (h1:css.length=l.length) (h2:∀cs∈css,cs.length=size) (h3:∀(i:Nat) (cs:List Value) (x:α),css[i]?=some cs→l[i]?=some x→R w cs x) {v':Value} {cs:List Value} {x:α} (hl:cs.length=size) (hx:R w cs x)
  (hown:w'.ownsRow base T size v' (l.length + 1) (css.flatten ++ cs)) (hk:aw w w'):cw base T size R w' v' (l ++ [x]):=by
 refine⟨css ++ [cs],by simp[h1],?_,?_,?_⟩
 ·intro c hc
  rcases List.mem_append.1 hc with h|h
  ·exact h2 c h
  ·simp at h;rw[h];exact hl
 ·intro i c y hc hy
  by_cases hi:i < l.length
  ·rw[List.getElem?_append_left (by omega)] at hc
   rw[List.getElem?_append_left hi] at hy
   exact hR _ _ _ _ (h3 i c y hc hy) hk
  ·have hi':i=l.length:=by
    have:=(List.getElem?_eq_some_iff.1 hy).1
    simp at this
    omega
   subst hi'
   rw[List.getElem?_append_right (by omega),h1] at hc
   rw[List.getElem?_append_right (ag _)] at hy
   simp at hc hy
   subst hc hy
   exact hR _ _ _ _ hx hk
 ·simpa using hown
end
end Go.Proofs.YtidmjdmmpajooaaGreat
namespace Go.Proofs.YtidmjdmmpajooaaGreat
open Go.RowKit Dg
def IP (_:World) (cs:List Value) (x:Pt):Prop:=cs=[.int .i64 x.1,.int .i64 x.2]
def IE (_:World) (cs:List Value) (x:Pt × Pt):Prop:=cs=[.int .i64 x.1.1,.int .i64 x.1.2,.int .i64 x.2.1,.int .i64 x.2.2]
theorem IP.kept:ir IP:=fun _ _ _ _ h _=>h
theorem IE.kept:ir IE:=fun _ _ _ _ h _=>h
abbrev Pts (w:World) (v:Value) (l:List Pt):Prop:=be 2 IP w v l
abbrev Bxs (w:World) (v:Value) (l:List (Pt × Pt)):Prop:=be 4 IE w v l
theorem jb0 {l:List Pt} {k:Nat} (h:k < l.length):l[k]?=some (ptZ l k):=by
 unfold ptZ;rw[List.getD_eq_getElem?_getD,List.getElem?_eq_getElem h];rfl
theorem lt_cell {w:World} {a:Addr} {v:Value} (h:w.cell? a=some v):a.block < w.heap.size:=by
 obtain⟨o,ho,_⟩:=cells_of_cell h
 exact (Array.getElem?_eq_some_iff.1 ho).1
theorem ep {α:Type} {size:Nat} {R:World→List Value→α→Prop} {w:World} {v:Value} {l:List α} (h:be size R w v l) (hl:0 < l.length):∃b o c,v=.slice (some ⟨b,o,none⟩) l.length c∧l.length≤c∧c≤9223372036854775807:=by
 obtain⟨ao,c,e,h1,h2,h3⟩:=h.slice
 obtain⟨b',o',c',cs,e',_⟩:=h.get (List.getElem?_eq_getElem hl)
 subst e
 injection e' with e1 _ _
 subst e1
 exact⟨b',o',c,rfl,h1,h2⟩
theorem ij {w:World} {b o n c:Nat} {l:List Pt} (h:Pts w (.slice (some ⟨b,o,none⟩) n c) l) {k:Nat} (hk:k < l.length):
  w.cell? ⟨b,o + k * 2,none⟩=some (.int .i64 (ptZ l k).1)∧w.cell? ⟨b,o + k * 2 + 1,none⟩=some (.int .i64 (ptZ l k).2)∧b < w.heap.size:=by
 obtain⟨b',o',c',cs,e,hlen,hat,rfl⟩:=h.get (jb0 hk)
 injection e with e1 _ _
 injection e1 with e1
 injection e1 with e2 e3 _
 subst e2 e3
 have h0:=hat 0 _ rfl
 exact⟨h0,hat 1 _ rfl,lt_cell h0⟩
theorem jf0 {w:World} {b o n c:Nat} {l:List (Pt × Pt)} (h:Bxs w (.slice (some ⟨b,o,none⟩) n c) l) {k:Nat} (hk:k < l.length):
  w.cell? ⟨b,o + k * 4,none⟩=some (.int .i64 (l.getD k ((0,0),(0,0))).1.1)∧w.cell? ⟨b,o + k * 4 + 1,none⟩=some (.int .i64 (l.getD k ((0,0),(0,0))).1.2)∧w.cell? ⟨b,o + k * 4 + 2,none⟩=some (.int .i64 (l.getD k ((0,0),(0,0))).2.1)∧
   w.cell? ⟨b,o + k * 4 + 3,none⟩=some (.int .i64 (l.getD k ((0,0),(0,0))).2.2)∧b < w.heap.size:=by
 have hx:l[k]?=some (l.getD k ((0,0),(0,0))):=by rw[List.getD_eq_getElem?_getD,List.getElem?_eq_getElem hk];rfl
 obtain⟨b',o',c',cs,e,hlen,hat,rfl⟩:=h.get hx
 injection e with e1 _ _
 injection e1 with e1
 injection e1 with e2 e3 _
 subst e2 e3
 have h0:=hat 0 _ rfl
 exact⟨h0,hat 1 _ rfl,hat 2 _ rfl,hat 3 _ rfl,lt_cell h0⟩
def Wn (B x:Int):Prop:= -B≤x∧x≤B
theorem Wn.lit {B x:Int} (h: -B≤x) (k:x≤B):Wn B x:=⟨h,k⟩
theorem Wn.mono {A B x:Int} (h:Wn A x) (hb:A≤B):Wn B x:=⟨by have:=h.1;omega,by have:=h.2;omega⟩
theorem Wn.add {A B x y:Int} (h:Wn A x) (k:Wn B y):Wn (A + B) (x + y):=⟨by have:=h.1;have:=k.1;omega,by have:=h.2;have:=k.2;omega⟩
theorem Wn.sub {A B x y:Int} (h:Wn A x) (k:Wn B y):Wn (A + B) (x - y):=⟨by have:=h.1;have:=k.2;omega,by have:=h.2;have:=k.1;omega⟩
theorem Wn.neg {A x:Int} (h:Wn A x):Wn A (-x):=⟨by have:=h.2;omega,by have:=h.1;omega⟩
theorem Wn.nn {A x:Int} (h:Wn A x):0≤A:=by have:=h.1;have:=h.2;omega
theorem Wn.abs {A x:Int} (h:Wn A x):(x.natAbs:Int)≤A:=by have:=h.1;have:=h.2;omega
theorem Wn.of_abs {A x:Int} (h:(x.natAbs:Int)≤A):Wn A x:=⟨by omega,by omega⟩
theorem Wn.mul {A B x y:Int} (h:Wn A x) (k:Wn B y):Wn (A * B) (x * y):=by
 refine Wn.of_abs ?_
 rw[Int.natAbs_mul,Int.natCast_mul]
 exact Int.mul_le_mul h.abs k.abs (Int.natCast_nonneg _) h.nn
theorem Wn.min {A x y:Int} (h:Wn A x) (k:Wn A y):Wn A (Min.min x y):=⟨by have:=h.1;have:=k.1;omega,by have:=h.2;have:=k.2;omega⟩
theorem Wn.max {A x y:Int} (h:Wn A x) (k:Wn A y):Wn A (Max.max x y):=⟨by have:=h.1;have:=k.1;omega,by have:=h.2;have:=k.2;omega⟩
theorem Wn.wrap {A x:Int} (h:Wn A x) (hA:A≤9223372036854775807):IntKind.i64.wrap x=x:=IntWalk.i64_in x (by have:=h.1;have:=h.2;omega)
theorem Wn.wsub {A B x y:Int} (h:Wn A x) (k:Wn B y) (hA:A + B≤9223372036854775807):IntKind.i64.wrap (x - y)=x - y:=(h.sub k).wrap hA
theorem Wn.wadd {A B x y:Int} (h:Wn A x) (k:Wn B y) (hA:A + B≤9223372036854775807):IntKind.i64.wrap (x + y)=x + y:=(h.add k).wrap hA
theorem Wn.wmul {A B x y:Int} (h:Wn A x) (k:Wn B y) (hA:A * B≤9223372036854775807):IntKind.i64.wrap (x * y)=x * y:=(h.mul k).wrap hA
theorem Wn.lo {A B x:Int} (h:Wn A x) (hA:A≤B): -B≤x:=by have:=h.1;omega
theorem Wn.lo64 {A x:Int} (h:Wn A x) (hA:A≤9223372036854775807): -9223372036854775808≤x:=by have:=h.1;omega
theorem Wn.hi {A B x:Int} (h:Wn A x) (hA:A≤B):x≤B:=by have:=h.2;omega
theorem Wn.out {A x:Int} (h:Wn A x): -A≤x∧x≤A:=h
abbrev WP (B:Int) (p:Pt):Prop:=Wn B p.1∧Wn B p.2
theorem WP.mono {A B:Int} {p:Pt} (h:WP A p) (hb:A≤B):WP B p:=⟨h.1.mono hb,h.2.mono hb⟩
theorem WP.mn {A B:Int} {p q:Pt} (h:WP A p) (k:WP B q):WP (A + B) (mnZ p q):=⟨h.1.sub k.1,h.2.sub k.2⟩
theorem WP.cr {A B:Int} {p q:Pt} (h:WP A p) (k:WP B q):Wn (A * B + A * B) (crZ p q):=(h.1.mul k.2).sub (h.2.mul k.1)
theorem jm {p:Pt} (h:rtB p=true):WP 1048576 p:=by
 unfold rtB at h
 simp only[Bool.and_eq_true,decide_eq_true_eq] at h
 exact⟨h.1,h.2⟩
theorem WP.pt {B:Int} (hB:0≤B) {l:List Pt} (h:∀p∈l,WP B p) (k:Nat):WP B (ptZ l k):=by
 by_cases hk:k < l.length
 ·exact h _ (List.mem_of_getElem? (jb0 hk))
 ·unfold ptZ;rw[List.getD_eq_getElem?_getD,List.getElem?_eq_none (by omega)];exact⟨⟨show -B≤(0:Int) by omega,show (0:Int)≤B by omega⟩,⟨show -B≤(0:Int) by omega,show (0:Int)≤B by omega⟩⟩
theorem Bx.set2 {w:World} {g:Nat} {t:TypeId} {a b x y:Value} (h:Bx w g t #[a,b]):Bx ((w.setCell ⟨g,0,none⟩ x).setCell ⟨g,1,none⟩ y) g t #[x,y]:=(h.set 0 _ rfl).set 1 _ rfl
end Go.Proofs.YtidmjdmmpajooaaGreat
namespace Go.Proofs.YtidmjdmmpajooaaGreat
open Go
section
variable {P:Program} {ops:Array Oper} {Q:Exit→Act→World→Prop} {md:Region.Mode} {S:World→Prop} {m:Nat}
def cq (P:Program) (md:Region.Mode) (ops:Array Oper) (Q:Exit→Act→World→Prop) (S:World→Prop) (m:Nat):Nat→Array Bool→Act→World→Prop
 | 0,listed,a,w=>Region.ready md ops listed=[]∧Q .normal a w
 | fuel + 1,listed,a,w=>
  (Region.ready md ops listed=[]→Q .normal a w)∧
  ∀i∈Region.ready md ops listed,wpOp P ops Q i (fun a' w'=>(i=m∨S w')∧cq P md ops Q S m fuel (listed.setIfInBounds i true) a' w') a w
theorem cq.abs {fuel:Nat} {listed:Array Bool} {a:Act} {w:World} (h:∀w',w'=w→cq P md ops Q S m fuel listed a w'):cq P md ops Q S m fuel listed a w:=h w rfl
theorem jb7:∀(fuel:Nat) (listed:Array Bool) (a:Act) (w:World),cq P md ops Q S m fuel listed a w→wpAny P md ops Q fuel listed a w
 | 0,_,_,_,h=>h
 | fuel + 1,_,_,_,h=>⟨h.1,fun i hi=>wpOp_mono (fun a' w' h'=>jb7 fuel _ a' w' h'.2) (h.2 i hi)⟩
def ml (md:Region.Mode) (ops:Array Oper) (m i:Nat):Bool:=((ops[m]?).map fun o=>o.after.any fun e=>Region.binds md e && e.on == i).getD false
theorem ow {listed:Array Bool} {i:Nat} (hw:ml md ops m i=true) (hi:i∈Region.ready md ops listed):¬ m∈Region.ready md ops listed:=by
 intro hm
 obtain⟨_,om,hom,hall⟩:=mem_ready.1 hm
 unfold ml at hw
 rw[hom] at hw
 simp only[Option.map_some,Option.getD_some,Array.any_eq_true,Bool.and_eq_true,beq_iff_eq] at hw
 obtain⟨k,hk,hb,he⟩:=hw
 have h1:=hall _ (Array.getElem_mem hk) hb
 have h0:=(mem_ready.1 hi).1
 rw[he] at h1
 rcases Nat.lt_or_ge i listed.size with h'|h'
 ·simp[h'] at h0 h1;rw[h0] at h1;cases h1
 ·simp[Array.getElem?_eq_none h'] at h1
theorem U_first {i:Nat} {oi:Oper} {v:Value} (hi:ops[i]?=some oi) (hwt:ml md ops m i=true) (hsel:∀(j:Nat) (o:Oper) cs b,ops[j]?=some o→o.op≠.select cs b)
  (hQ:∀c a w,Q (.panic c) (a.put oi.dst v) w→Q (.panic c) a w):
  ∀(fuel:Nat) (listed:Array Bool) (a:Act) (w:World),
   (∀j oj,ops[j]?=some oj→j≠i→listed.getD j true=false→(∀e∈oj.after,Region.binds md e=true→e.on≠i)→oi.apart ops oj=true)→
   i∈Region.ready md ops listed→YieldsIf P ops S oi v a→S w→
   cq P md ops Q S m fuel (listed.setIfInBounds i true) (a.put oi.dst v) w→cq P md ops Q S m (fuel + 1) listed a w:=by
 intro fuel
 induction fuel with
 | zero=>
  intro listed a w _ hr hy hS H
  refine⟨fun h=>(by rw[h] at hr;cases hr),fun j hj=>?_⟩
  by_cases hji:j=i
  ·subst hji;exact hy.wpOp hi hS ⟨.inr hS,H⟩
  ·have:=ready_mono hj hji
   rw[H.1] at this
   cases this
 | succ fuel ih=>
  intro listed a w hfree hr hy hS H
  refine⟨fun h=>(by rw[h] at hr;cases hr),fun j hj=>?_⟩
  by_cases hji:j=i
  ·subst hji;exact hy.wpOp hi hS ⟨.inr hS,H⟩
  ·have hjm:j≠m:=fun e=>ow hwt hr (e ▸ hj)
   have h1:=H.2 j (ready_mono hj hji)
   obtain⟨hjun,oj,hoj,hall⟩:=mem_ready.1 hj
   have hnot:∀e∈oj.after,Region.binds md e=true→e.on≠i:=fun e he hb heq=>by
    have h1:=hall e he hb
    have h0:=(mem_ready.1 hr).1
    rw[heq] at h1
    rcases Nat.lt_or_ge i listed.size with h'|h'
    ·simp[h'] at h0 h1;rw[h0] at h1;cases h1
    ·simp[Array.getElem?_eq_none h'] at h1
   have h2:=wpOp_putIf hoj (hfree j oj hoj hji hjun hnot) (fun cs b=>hsel i oi cs b hi) (fun cs b=>hsel j oj cs b hoj) hQ hy h1
   have hfree':∀k ok,ops[k]?=some ok→k≠i→(listed.setIfInBounds j true).getD k true=false→
     (∀e∈ok.after,Region.binds md e=true→e.on≠i)→oi.apart ops ok=true:=fun k ok hk hki hun hno=>by
    refine hfree k ok hk hki ?_ hno
    by_cases hjk:j=k
    ·subst hjk;exact hjun
    ·rw[getD_set_ne true hjk] at hun;exact hun
   refine wpOp_mono (fun a' w' h3=>⟨.inr (h3.2.1.resolve_left hjm),ih (listed.setIfInBounds j true) a' w' hfree' (ready_mono hr (Ne.symm hji)) h3.1 (h3.2.1.resolve_left hjm) ?_⟩) h2
   rw[Array.setIfInBounds_comm _ _ hji]
   exact h3.2.2
theorem U_take {i:Nat} {oi:Oper} {v:Value} {fuel:Nat} {listed:Array Bool} {a:Act} {w:World} (hi:ops[i]?=some oi) (hwt:ml md ops m i=true)
  (hs:Region.noSelect ops=true) (hf:Region.free md ops listed i=true) (hr:(Region.ready md ops listed).contains i=true)
  (hQ:∀c a w,Q (.panic c) (a.put oi.dst v) w→Q (.panic c) a w) (hy:YieldsIf P ops S oi v a) (hS:S w)
  (h:cq P md ops Q S m fuel (listed.setIfInBounds i true) (a.put oi.dst v) w):cq P md ops Q S m (fuel + 1) listed a w:=
 U_first hi hwt (Region.noSelect_spec hs) hQ fuel listed a w (Region.free_spec hi hf) (by simpa using hr) hy hS h
theorem U_one {i:Nat} {o:Oper} {fuel:Nat} {listed:Array Bool} {a:Act} {w:World} (hr:Region.ready md ops listed=[i]) (ho:ops[i]?=some o)
  (h:∀K':Act→World→Prop,Shut (∀a w,S w→(S w→cq P md ops Q S m fuel (listed.setIfInBounds i true) a w)→K' a w)→if Region.wanted o (yielded ops a.tmps)=true then Oper.wp P o a w K' Q else K' (a.put o.dst undef) w):
  cq P md ops Q S m (fuel + 1) listed a w:=by
 refine⟨fun h0=>(by rw[h0] at hr;cases hr),fun j hj=>?_⟩
 rw[hr] at hj
 simp only[List.mem_singleton] at hj
 subst hj
 exact wpOp_step ho (fun K' hK=>h K' (fun a w hS hW=>hK a w ⟨.inr hS,hW hS⟩))
theorem dq {i j:Nat} {oi oj:Oper} {fuel:Nat} {listed:Array Bool} {a:Act} {w:World} (hr:Region.ready md ops listed=[i,j]) (hi:ops[i]?=some oi) (hj:ops[j]?=some oj)
  (h1:∀K':Act→World→Prop,Shut (∀a w,S w→(S w→cq P md ops Q S m fuel (listed.setIfInBounds i true) a w)→K' a w)→if Region.wanted oi (yielded ops a.tmps)=true then Oper.wp P oi a w K' Q else K' (a.put oi.dst undef) w)
  (h2:∀K':Act→World→Prop,Shut (∀a w,S w→(S w→cq P md ops Q S m fuel (listed.setIfInBounds j true) a w)→K' a w)→if Region.wanted oj (yielded ops a.tmps)=true then Oper.wp P oj a w K' Q else K' (a.put oj.dst undef) w):
  cq P md ops Q S m (fuel + 1) listed a w:=by
 refine⟨fun h0=>(by rw[h0] at hr;cases hr),fun k hk=>?_⟩
 rw[hr] at hk
 simp only[List.mem_cons,List.mem_nil_iff,or_false] at hk
 rcases hk with rfl|rfl
 ·exact wpOp_step hi (fun K' hK=>h1 K' (fun a w hS hW=>hK a w ⟨.inr hS,hW hS⟩))
 ·exact wpOp_step hj (fun K' hK=>h2 K' (fun a w hS hW=>hK a w ⟨.inr hS,hW hS⟩))
theorem dr {o:Oper} {fuel:Nat} {listed:Array Bool} {a:Act} {w:World} (hr:Region.ready md ops listed=[m]) (ho:ops[m]?=some o)
  (hr':Region.ready md ops (listed.setIfInBounds m true)=[])
  (h:∀K':Act→World→Prop,Shut (∀a w,(∀w',w'=w→Q .normal a w')→K' a w)→if Region.wanted o (yielded ops a.tmps)=true then Oper.wp P o a w K' Q else K' (a.put o.dst undef) w):
  cq P md ops Q S m (fuel + 1) listed a w:=by
 refine⟨fun h0=>(by rw[h0] at hr;cases hr),fun j hj=>?_⟩
 rw[hr] at hj
 simp only[List.mem_singleton] at hj
 subst hj
 refine wpOp_step ho (fun K' hK=>h K' (fun a w hq=>hK a w ⟨.inl rfl,?_⟩))
 have hq:=hq w rfl
 cases fuel with
 | zero=>exact⟨hr',hq⟩
 | succ n=>exact⟨fun _=>hq,by rw[hr'];simp⟩
theorem bw {id:Nat} {a:Act} {w:World} (hm:P.follows .mixedOrders=true) (m:Nat)
  (h:cq P .any ops Q S m ops.size (Array.replicate ops.size false) a w.drew):(Code.region id ops true).wp P Q a w:=
 wp_region_any hm (jb7 _ _ _ _ h)
end
end Go.Proofs.YtidmjdmmpajooaaGreat
namespace Go.Proofs.YtidmjdmmpajooaaGreat
open Go.RowKit Dg
structure Gr (gs:List Nat) (w w':World):Prop where
 os:w'.os=w.os
 tape:w'.tape=w.tape
 output:w'.output=w.output
 size:w.heap.size≤w'.heap.size
 block:∀k,k < w.heap.size→k ∉ gs→w'.heap[k]?=w.heap[k]?
def NoD (w:World):List Nat→Prop
 | []=>True
 | g ::r=>(∃T,TyB T w g∧(T≠95∧T≠152))∧NoD w r
theorem NoD.get {w:World}:∀{gs:List Nat},NoD w gs→∀g∈gs,∃T,TyB T w g∧(T≠95∧T≠152)
 | _ ::_,h,g,hg=>by
  rcases List.mem_cons.1 hg with rfl|hg
  ·exact h.1
  ·exact NoD.get h.2 g hg
section
variable {gs:List Nat} {a w:World}
theorem Gr.refl (gs:List Nat) (w:World):Gr gs w w:=⟨rfl,rfl,rfl,ag _,fun _ _ _=>rfl⟩
theorem Gr.set (h:Gr gs a w) {p:Addr} {u:Value} (hp:p.block∈gs:=by first|exact .head _|exact .tail _ (.head _)|exact .tail _ (.tail _ (.head _))):Gr gs a (w.setCell p u):=
 ⟨h.os,h.tape,h.output,by simpa [World.setCell] using h.size,fun k hk hn=>(Below.heap_setCell _ _ _ _ (fun e=>hn (by rw[e];exact hp))).trans (h.block k hk hn)⟩
theorem Gr.alloc (h:Gr gs a w) {o:Obj}:Gr gs a (w.alloc o):=
 ⟨h.os,h.tape,h.output,by have:=h.size;simp;omega,fun k hk hn=>(Below.heap_alloc _ _ _ (by have:=h.size;omega)).trans (h.block k hk hn)⟩
theorem Gr.drew (h:Gr gs a w):Gr gs a w.drew:=⟨h.os,h.tape,h.output,h.size,h.block⟩
theorem Gr.below {B:Nat} (h:Gr gs a w) (hB:B≤a.heap.size) (hg:∀g∈gs,B≤g):Below B a w:=
 ⟨h.os,h.tape,h.output,h.size,fun k hk=>h.block k (by omega) (fun hm=>by have:=hg k hm;omega)⟩
theorem Gr.below0 {B:Nat} (h:Gr [] a w) (hB:B≤a.heap.size):Below B a w:=h.below hB (fun _ hg=>by cases hg)
theorem Gr.below1 {B g:Nat} (h:Gr [g] a w) (hB:B≤a.heap.size) (h1:B≤g):Below B a w:=h.below hB (fun x hx=>by cases hx with|head=>exact h1|tail _ h=>cases h)
theorem Gr.below2 {B g g':Nat} (h:Gr [g,g'] a w) (hB:B≤a.heap.size) (h1:B≤g) (h2:B≤g'):Below B a w:=h.below hB (fun x hx=>by
 cases hx with
 | head=>exact h1
 | tail _ h=>cases h with
  | head=>exact h2
  | tail _ h=>cases h)
theorem Gr.keep (h:Gr gs a w) (hd:NoD a gs):aw a w:=
 ⟨h.size,fun k t hk ht=>h.block k hk.lt (fun hm=>by
  obtain⟨T,hT,h1,h2⟩:=hd.get k hm
  rcases ht with rfl|rfl
  ·exact TyB.ne hT hk h1 rfl
  ·exact TyB.ne hT hk h2 rfl)⟩
theorem Gr.bx {g:Nat} {t:TypeId} {cs:Array Value} (h:Gr gs a w) (hx:Bx a g t cs) (hn:g ∉ gs):Bx w g t cs:=(h.block g hx.lt hn).trans hx
theorem Gr.cell {p:Addr} {v:Value} (h:Gr gs a w) (hc:a.cell? p=some v) (hn:p.block ∉ gs):w.cell? p=some v:=(World.cell?_of_block (h.block p.block (jw hc) hn)).trans hc
theorem Gr.onlyT {T:TypeId} (h:Gr gs a w) (hg:∀g∈gs,TyB T a g):dg T a w:=⟨h.size,fun k hk hn=>h.block k hk (fun hm=>hn (hg k hm))⟩
theorem wh {k:Nat}:k ∉ ([]:List Nat):=fun h=>by cases h
theorem az {k g:Nat} (h:k≠g):k ∉ [g]:=fun hm=>by cases hm with|head=>exact h rfl|tail _ h=>cases h
theorem eh {k g g':Nat} (h:k≠g) (h':k≠g'):k ∉ [g,g']:=fun hm=>by
 cases hm with
 | head=>exact h rfl
 | tail _ hm=>cases hm with
  | head=>exact h' rfl
  | tail _ hm=>cases hm
end
theorem Bx.set3 {w:World} {g:Nat} {t:TypeId} {a b c x y z:Value} (h:Bx w g t #[a,b,c]):Bx (((w.setCell ⟨g,0,none⟩ x).setCell ⟨g,1,none⟩ y).setCell ⟨g,2,none⟩ z) g t #[x,y,z]:=((h.set 0 _ rfl).set 1 _ rfl).set 2 _ rfl
theorem Bx.new0 (w:World) (t:TypeId) (cs:Array Value) {g:Nat} (hg:g=w.heap.size:=by first|rfl|(simp;done)):Bx (w.alloc (.cells cs t)) g t cs:=Bx.new' w t cs g hg
class Mg (A:Prop) (w w':World) (B:outParam Prop):Prop where
  mv:Gr [] w w'→A→B
class MgS (A:Prop) (w w':World) (B:outParam Prop):Prop where
  mv:Gr [] w w'→B→A
section
variable {w w':World}
instance {g:Nat} {t:TypeId} {c:Array Value}:Mg (Bx w g t c) w w' (Bx w' g t c):=⟨fun hb h=>hb.bx h wh⟩
instance {v:Value} {q:Rat}:Mg (PV w v q) w w' (PV w' v q):=⟨fun hb h=>h.keep (hb.keep True.intro)⟩
instance {v:Value} {q:Rat}:Mg (RV w v q) w w' (RV w' v q):=⟨fun hb h=>h.keep (hb.keep True.intro)⟩
instance (priority:=low) {G:Prop}:MgS G w w' G:=⟨fun _ h=>h⟩
instance {A B X Y:Prop} [Mg A w w' B] [MgS X w w' Y]:MgS (A→X) w w' (B→Y):=⟨fun hb h a=>MgS.mv hb (h (Mg.mv hb a))⟩
theorem Gr.b1 {a w:World} {k g:Nat} {t:TypeId} {cs:Array Value} (h:Gr [k] a w) (hx:Bx a g t cs) (hn:g≠k:=by omega):Bx w g t cs:=h.bx hx (az hn)
theorem Gr.c1 {a w:World} {k:Nat} {p:Addr} {v:Value} (h:Gr [k] a w) (hc:a.cell? p=some v) (hn:p.block≠k:=by (dsimp only;omega)):w.cell? p=some v:=h.cell hc (az hn)
theorem Gr.d1 {a w:World} {B g:Nat} (h:Gr [g] a w) (hB:B≤a.heap.size) (h1:B≤g:=by first|omega|assumption):Below B a w:=h.below1 hB h1
theorem g0 {X Y:Prop} [MgS X w w' Y] (hG:Gr [] w w') (h:Y):X:=MgS.mv hG h
end
end Go.Proofs.YtidmjdmmpajooaaGreat
namespace Go.Proofs.YtidmjdmmpajooaaGreat
open Go
theorem put_mk (l:List Value) (ds:List Deferred) (d:Nat) (v:Value):Act.put ⟨l.toArray,ds⟩ (some d) v=⟨(l.set d v).toArray,ds⟩:=by
 simp only[Act.put,List.setIfInBounds_toArray]
theorem LY:(∀(l:List Value) (ds:List Deferred) (d:Nat) (v:Value),Act.put ⟨l.toArray,ds⟩ (some d) v=⟨(l.set d v).toArray,ds⟩)∧(∀(x v:Value) (l:List Value),(x ::l).set 0 v=v ::l)∧(∀(x v:Value) (l:List Value) (n:Nat),(x ::l).set (n + 1) v=x ::l.set n v):=
 ⟨put_mk,fun _ _ _=>rfl,fun _ _ _ _=>rfl⟩
theorem aq {B:Nat} {w0 W:World} {t:TypeId} {cs:Array Value} {p:World→Prop} (hs:RowKit.Below B w0 W) (h:∀W1,RowKit.Below W.heap.size W W1→Bx W1 W.heap.size t cs→w0.heap.size≤W.heap.size→p W1):p (W.alloc (.cells cs t)):=
 h _ ((RowKit.Below.refl _ _).alloc (ag _) _) (Bx.new _ _ _) hs.size
section
variable {P:Program} {ops:Array Oper} {Q:Exit→Act→World→Prop} {md:Region.Mode} {S:World→Prop} {m:Nat}
theorem jv {i j k:Nat} {oi oj ok:Oper} {fuel:Nat} {listed:Array Bool} {a:Act} {w:World} (hr:Region.ready md ops listed=[i,j,k]) (hi:ops[i]?=some oi) (hj:ops[j]?=some oj) (hk:ops[k]?=some ok)
  (h1:∀K':Act→World→Prop,Shut (∀a w,S w→(S w→cq P md ops Q S m fuel (listed.setIfInBounds i true) a w)→K' a w)→if Region.wanted oi (yielded ops a.tmps)=true then Oper.wp P oi a w K' Q else K' (a.put oi.dst undef) w)
  (h2:∀K':Act→World→Prop,Shut (∀a w,S w→(S w→cq P md ops Q S m fuel (listed.setIfInBounds j true) a w)→K' a w)→if Region.wanted oj (yielded ops a.tmps)=true then Oper.wp P oj a w K' Q else K' (a.put oj.dst undef) w)
  (h3:∀K':Act→World→Prop,Shut (∀a w,S w→(S w→cq P md ops Q S m fuel (listed.setIfInBounds k true) a w)→K' a w)→if Region.wanted ok (yielded ops a.tmps)=true then Oper.wp P ok a w K' Q else K' (a.put ok.dst undef) w):
  cq P md ops Q S m (fuel + 1) listed a w:=by
 refine⟨fun h0=>(by rw[h0] at hr;cases hr),fun x hx=>?_⟩
 rw[hr] at hx
 simp only[List.mem_cons,List.mem_nil_iff,or_false] at hx
 rcases hx with rfl|rfl|rfl
 ·exact wpOp_step hi (fun K' hK=>h1 K' (fun a w hS hW=>hK a w ⟨.inr hS,hW hS⟩))
 ·exact wpOp_step hj (fun K' hK=>h2 K' (fun a w hS hW=>hK a w ⟨.inr hS,hW hS⟩))
 ·exact wpOp_step hk (fun K' hK=>h3 K' (fun a w hS hW=>hK a w ⟨.inr hS,hW hS⟩))
theorem U_takeD {i d:Nat} {oi:Oper} {v:Value} {fuel:Nat} {listed:Array Bool} {l:List Value} {ds:List Deferred} {w:World} (hi:ops[i]?=some oi) (hd:oi.dst=some d) (hwt:ml md ops m i=true)
  (hs:Region.noSelect ops=true) (hf:Region.free md ops listed i=true) (hr:(Region.ready md ops listed).contains i=true)
  (hQ:∀c a w,Q (.panic c) (a.put oi.dst v) w→Q (.panic c) a w) (hy:YieldsIf P ops S oi v ⟨l.toArray,ds⟩) (hS:S w)
  (h:cq P md ops Q S m fuel (listed.setIfInBounds i true) ⟨(l.set d v).toArray,ds⟩ w):cq P md ops Q S m (fuel + 1) listed ⟨l.toArray,ds⟩ w:=
 U_take hi hwt hs hf hr hQ hy hS (by rw[hd,put_mk];exact h)
theorem ks {fuel:Nat} {listed:Array Bool} {a:Act} {w:World} (h:∀(X:Nat→Array Bool→Act→World→Prop) (a0:Act),RowKit.Hid (cq P md ops Q S m=X)→RowKit.Hid (a=a0)→X fuel listed a0 w):cq P md ops Q S m fuel listed a w:=
 h _ _ (ae rfl) (ae rfl)
theorem U_at {f f':Nat} {l l':Array Bool} {a:Act} {w:World} (hf:f=f') (hl:l=l') (h:cq P md ops Q S m f' l' a w):cq P md ops Q S m f l a w:=by subst hf hl;exact h
end
end Go.Proofs.YtidmjdmmpajooaaGreat
