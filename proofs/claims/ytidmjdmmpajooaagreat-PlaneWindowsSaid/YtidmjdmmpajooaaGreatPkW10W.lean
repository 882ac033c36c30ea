/-
  The contracts of the program's fractions, fifth part: Text.
-/
import Derived.Test.YtidmjdmmpajooaaGreatRatP4W
import Derived.Test.YtidmjdmmpajooaaGreatPkW1W
import Derived.Deep.RegionHeld3
import Derived.Below
set_option linter.unusedSimpArgs false
set_option linter.unusedVariables false
set_option maxRecDepth 100000
set_option maxHeartbeats 4000000
namespace Go.Proofs.YtidmjdmmpajooaaGreat
open Go.RowKit Dg
theorem decS_lenP {n K:Nat} (h:n < 18446744073709551616 ^ K):(dw n).length≤64 * K + 1:=by
 unfold dw
 split
 ·simp
 have h1:=qw n
 have h2:bl n≤64 * K:=jy (by rwa [show (18446744073709551616:Nat)=2 ^ 64 from rfl,←Nat.pow_mul] at h)
 omega
theorem p_Text_calls (vx:Value) (x:Rat) (K:Nat) (w:World) (hx:PV w vx x) (hK:K≤268435456) (sx:SzP K x):Calls Tryz.prog 21 #[vx] w (fj w (ib (qh x))):=by
 obtain⟨gx,ax,nx,cx,Ax,Nx,Cx,rfl⟩:=hx.shape
 have egx:=hx.sign
 have EGx:=ae egx
 have hxn:=hx.parts.2.1
 have hxd:=hx.parts.2.2
 have sx1:=sx.1
 have sx2:=sx.2
 have l1:=decS_lenP sx1
 have l2:=decS_lenP sx2
 have hK':K≤536870912:=by omega
 have htx:qh x=(if ng x then [45] else []) ++ dw x.num.natAbs ++ (if x.den=1 then [] else 47 ::dw x.den):=rfl
 rw[←egx] at htx
 generalize qh x=T at *
 have hdx:=x.den_pos
 have hNx:Nx≤9223372036854775807:=by
  obtain⟨ao,n,c,l,e,hsl,hcl,hvl⟩:=hxd
  cases e
  have:=hsl.cap;have:=hsl.max;omega
 have hN0:0 < Nx↔x.den≠1:=by
  obtain⟨ao,n,c,l,e,hsl,hcl,hvl⟩:=hxd
  cases e
  have:=hcl.length_pos_iff (by omega)
  rw[hsl.len,hvl] at this
  rw[this]
  split<;>omega
 generalize x.num.natAbs=xn at *
 generalize x.den=xd at *
 have HT:=ae htx
 clear htx
 clear egx
 have hs:=Below.refl w.heap.size w
 cases gx
 ·clear hx
  by_cases h1:xd=1
  ·have hn:Nx=0:=by omega
   subst hn
   have H1:=ae h1
   clear h1 hN0
   go_enter Tryz.func21,Tryz.ntmps21
   go_wp2_with fail
   refine Calls.abs ?_
   intro w1 hW
   have hsz:=hs.size
   have hs1:Below w.heap.size w w1:=by rw[hW];exact (Below.alloc hs (by first|exact hs.size|(have:=hs.size;simp;done)|(have:=hs.size;simp;omega)) _)
   have hk:aw w w1:=by rw[hW];exact ((aw.refl _).alloc _)
   have Bl1x:Bx w1 (w.heap.size) 37 #[.bool false,.slice ax nx cx,.slice Ax 0 Cx]:=by rw[hW];exact (Bx.new' _ _ _ _ (by first|rfl|(simp;done)))
   replace hs:=hs1
   clear hs1
   have Blx:=Bl1x
   clear Bl1x
   revert hxd;revert hxn;refine ke hk ?_;intro hxn hxd
   clear hW hk hsz
   have hz_w1:=Blx.lt
   refine (tx hxn sx1 hK').mono ?_
   rintro e w2 ⟨rfl,hb⟩
   revert Blx hxn hxd;refine mS hs hb ?_;clear hs hb;intro hs Blx hxn hxd
   unfold ib
   refine Blx.k3 fun B0 B1 B2=>?_
   go_wp2
   go_ret
   refine⟨?_,hs⟩
   rw[HT.out,if_pos H1.out]
   simp[ib]
  have hn:0 < Nx:=by omega
  rw[if_neg h1] at hxd
  have H1:=ae h1
  clear h1 hN0
  go_enter Tryz.func21,Tryz.ntmps21
  go_wp2_with fail
  refine Calls.abs ?_
  intro w1 hW
  have hsz:=hs.size
  have hs1:Below w.heap.size w w1:=by rw[hW];exact (Below.alloc hs (by first|exact hs.size|(have:=hs.size;simp;done)|(have:=hs.size;simp;omega)) _)
  have hk:aw w w1:=by rw[hW];exact ((aw.refl _).alloc _)
  have Bl1x:Bx w1 (w.heap.size) 37 #[.bool false,.slice ax nx cx,.slice Ax Nx Cx]:=by rw[hW];exact (Bx.new' _ _ _ _ (by first|rfl|(simp;done)))
  replace hs:=hs1
  clear hs1
  have Blx:=Bl1x
  clear Bl1x
  revert hxd;revert hxn;refine ke hk ?_;intro hxn hxd
  clear hW hk hsz
  have hz_w1:=Blx.lt
  refine (tx hxn sx1 hK').mono ?_
  rintro e w2 ⟨rfl,hb⟩
  revert Blx hxn hxd;refine mS hs hb ?_;clear hs hb;intro hs Blx hxn hxd
  unfold ib
  refine Blx.k3 fun B0 B1 B2=>?_
  go_wp2_with fail
  clear B0 B1 B2
  refine (tx hxd sx2 hK').mono ?_
  rintro e w3 ⟨rfl,hb⟩
  revert Blx hxn hxd;refine mS hs hb ?_;clear hs hb;intro hs Blx hxn hxd
  unfold ib
  have hcat:∀W:World,(Op.stringOp .add ⟨#[47]⟩ ⟨(dw xd).toArray⟩).run Tryz.prog W=.ok (.string ⟨(47 ::dw xd).toArray⟩) W:=fun W=>oh W _ [47] (dw xd) (by simp only[List.length_cons,List.length_nil];omega)
  have hcat2:∀W:World,(Op.stringOp .add ⟨(dw xn).toArray⟩ ⟨(47 ::dw xd).toArray⟩).run Tryz.prog W=.ok (.string ⟨((dw xn) ++ (47 ::dw xd)).toArray⟩) W:=fun W=>oh W _ (dw xn) (47 ::dw xd) (by simp only[List.length_cons];omega)
  go_wp2
  go_ret
  refine⟨?_,hs⟩
  rw[HT.out,if_neg H1.out]
  first|(simp[ib];done)|(simp[ib,ja])
 clear hx
 by_cases h1:xd=1
 ·have hn:Nx=0:=by omega
  subst hn
  have H1:=ae h1
  clear h1 hN0
  go_enter Tryz.func21,Tryz.ntmps21
  go_wp2_with fail
  refine Calls.abs ?_
  intro w1 hW
  have hsz:=hs.size
  have hs1:Below w.heap.size w w1:=by rw[hW];exact (Below.alloc hs (by first|exact hs.size|(have:=hs.size;simp;done)|(have:=hs.size;simp;omega)) _)
  have hk:aw w w1:=by rw[hW];exact ((aw.refl _).alloc _)
  have Bl1x:Bx w1 (w.heap.size) 37 #[.bool true,.slice ax nx cx,.slice Ax 0 Cx]:=by rw[hW];exact (Bx.new' _ _ _ _ (by first|rfl|(simp;done)))
  replace hs:=hs1
  clear hs1
  have Blx:=Bl1x
  clear Bl1x
  revert hxd;revert hxn;refine ke hk ?_;intro hxn hxd
  clear hW hk hsz
  have hz_w1:=Blx.lt
  refine (tx hxn sx1 hK').mono ?_
  rintro e w2 ⟨rfl,hb⟩
  revert Blx hxn hxd;refine mS hs hb ?_;clear hs hb;intro hs Blx hxn hxd
  unfold ib
  refine Blx.k3 fun B0 B1 B2=>?_
  have hcat:∀W:World,(Op.stringOp .add ⟨#[45]⟩ ⟨(dw xn).toArray⟩).run Tryz.prog W=.ok (.string ⟨(45 ::dw xn).toArray⟩) W:=fun W=>oh W _ [45] (dw xn) (by simp only[List.length_cons,List.length_nil];omega)
  go_wp2
  go_ret
  refine⟨?_,hs⟩
  rw[HT.out,if_pos H1.out]
  simp[ib]
 have hn:0 < Nx:=by omega
 rw[if_neg h1] at hxd
 have H1:=ae h1
 clear h1 hN0
 go_enter Tryz.func21,Tryz.ntmps21
 go_wp2_with fail
 refine Calls.abs ?_
 intro w1 hW
 have hsz:=hs.size
 have hs1:Below w.heap.size w w1:=by rw[hW];exact (Below.alloc hs (by first|exact hs.size|(have:=hs.size;simp;done)|(have:=hs.size;simp;omega)) _)
 have hk:aw w w1:=by rw[hW];exact ((aw.refl _).alloc _)
 have Bl1x:Bx w1 (w.heap.size) 37 #[.bool true,.slice ax nx cx,.slice Ax Nx Cx]:=by rw[hW];exact (Bx.new' _ _ _ _ (by first|rfl|(simp;done)))
 replace hs:=hs1
 clear hs1
 have Blx:=Bl1x
 clear Bl1x
 revert hxd;revert hxn;refine ke hk ?_;intro hxn hxd
 clear hW hk hsz
 have hz_w1:=Blx.lt
 refine (tx hxn sx1 hK').mono ?_
 rintro e w2 ⟨rfl,hb⟩
 revert Blx hxn hxd;refine mS hs hb ?_;clear hs hb;intro hs Blx hxn hxd
 unfold ib
 refine Blx.k3 fun B0 B1 B2=>?_
 have hcat:∀W:World,(Op.stringOp .add ⟨#[45]⟩ ⟨(dw xn).toArray⟩).run Tryz.prog W=.ok (.string ⟨(45 ::dw xn).toArray⟩) W:=fun W=>oh W _ [45] (dw xn) (by simp only[List.length_cons,List.length_nil];omega)
 go_wp2_with fail
 clear B0 B1 B2 hcat
 refine (tx hxd sx2 hK').mono ?_
 rintro e w3 ⟨rfl,hb⟩
 revert Blx hxn hxd;refine mS hs hb ?_;clear hs hb;intro hs Blx hxn hxd
 unfold ib
 have hcat:∀W:World,(Op.stringOp .add ⟨#[47]⟩ ⟨(dw xd).toArray⟩).run Tryz.prog W=.ok (.string ⟨(47 ::dw xd).toArray⟩) W:=fun W=>oh W _ [47] (dw xd) (by simp only[List.length_cons,List.length_nil];omega)
 have hcat2:∀W:World,(Op.stringOp .add ⟨(45 ::dw xn).toArray⟩ ⟨(47 ::dw xd).toArray⟩).run Tryz.prog W=.ok (.string ⟨((45 ::dw xn) ++ (47 ::dw xd)).toArray⟩) W:=fun W=>oh W _ (45 ::dw xn) (47 ::dw xd) (by simp only[List.length_cons];omega)
 go_wp2
 go_ret
 refine⟨?_,hs⟩
 rw[HT.out,if_neg H1.out]
 first|(simp[ib];done)|(simp[ib,ja])
end Go.Proofs.YtidmjdmmpajooaaGreat
namespace Go.Proofs.YtidmjdmmpajooaaGreat
open Go.RowKit Dg
def jp (w:World) (b o:Nat) (cs:List Value):Prop:=∀j u,cs[j]?=some u→w.cell? ⟨b,o + j,none⟩=some u
def ir {α:Type} (R:World→List Value→α→Prop):Prop:=∀(w w':World) (cs:List Value) (x:α),R w cs x→aw w w'→R w' cs x
def Rows {α:Type} (size:Nat) (T:TypeId) (R:World→List Value→α→Prop) (w:World) (v:Value) (l:List α):Prop:=
 ∃ao c,v=.slice ao l.length c∧l.length≤c∧c≤9223372036854775807∧(ao=none→c=0)∧qu T w ao l.length∧
  ∀(i:Nat) (x:α),l[i]?=some x→∃b o cs,ao=some ⟨b,o,none⟩∧cs.length=size∧jp w b (o + i * size) cs∧R w cs x
theorem jp.mono {w w':World} {b o:Nat} {cs:List Value} (h:jp w b o cs) (hb:Below w.heap.size w w'):jp w' b o cs:=fun j u hu=>ah (h j u hu) hb
theorem jp.onlyT {w w':World} {b o:Nat} {cs:List Value} {T:TypeId} (h:jp w b o cs) (ho:dg T w w') (hn:¬ TyB T w b):jp w' b o cs:=fun j u hu=>ho.cell (h j u hu) hn
section
variable {α:Type} {size:Nat} {T:TypeId} {R:World→List Value→α→Prop} {w w':World} {v:Value} {l:List α}
theorem Rows.mono (hR:ir R) (h:Rows size T R w v l) (hb:Below w.heap.size w w'):Rows size T R w' v l:=by
 obtain⟨ao,c,e,h1,h2,h3,h4,h5⟩:=h
 refine⟨ao,c,e,h1,h2,h3,h4.mono hb,fun i x hx=>?_⟩
 obtain⟨b,o,cs,ea,hl,hc,hr⟩:=h5 i x hx
 exact⟨b,o,cs,ea,hl,hc.mono hb,hR _ _ _ _ hr (.of_below hb)⟩
theorem Rows.onlyT (hR:ir R) {t:TypeId} (h:Rows size T R w v l) (ho:dg t w w') (hne:t≠T) (hd:t≠95∧t≠152):Rows size T R w' v l:=by
 obtain⟨ao,c,e,h1,h2,h3,h4,h5⟩:=h
 refine⟨ao,c,e,h1,h2,h3,fun a ha hn=>ho.ty (h4 a ha hn) hne,fun i x hx=>?_⟩
 obtain⟨b,o,cs,ea,hl,hc,hr⟩:=h5 i x hx
 have hi:i < l.length:=(List.getElem?_eq_some_iff.1 hx).1
 have hb:=h4 _ ea (by omega)
 exact⟨b,o,cs,ea,hl,hc.onlyT ho (fun hT=>TyB.ne hT hb hne rfl),hR _ _ _ _ hr (.of_only ho hd)⟩
theorem Rows.slice (h:Rows size T R w v l):∃ao c,v=.slice ao l.length c∧l.length≤c∧c≤9223372036854775807∧(ao=none→c=0):=by
 obtain⟨ao,c,e,h1,h2,h3,_⟩:=h
 exact⟨ao,c,e,h1,h2,h3⟩
theorem Rows.get (h:Rows size T R w v l) {i:Nat} {x:α} (hx:l[i]?=some x):∃b o c cs,v=.slice (some ⟨b,o,none⟩) l.length c∧cs.length=size∧jp w b (o + i * size) cs∧R w cs x:=by
 obtain⟨ao,c,e,h1,h2,h3,h4,h5⟩:=h
 obtain⟨b,o,cs,ea,hl,hc,hr⟩:=h5 i x hx
 subst ea
 exact⟨b,o,c,cs,e,hl,hc,hr⟩
theorem Rows.open_ (h:Rows size T R w v l) (hl:0 < l.length):∃b o c,v=.slice (some ⟨b,o,none⟩) l.length c∧l.length≤c∧c≤9223372036854775807∧
  ∀(i:Nat) (x:α),l[i]?=some x→∃cs,cs.length=size∧jp w b (o + i * size) cs∧R w cs x:=by
 obtain⟨ao,c,e,h1,h2,h3,h4,h5⟩:=h
 obtain⟨b,o,cs,ea,_⟩:=h5 0 (l[0]'hl) (List.getElem?_eq_getElem hl)
 subst ea
 refine⟨b,o,c,e,h1,h2,fun i x hx=>?_⟩
 obtain⟨b',o',cs,ea,hl,hc,hr⟩:=h5 i x hx
 cases ea
 exact⟨cs,hl,hc,hr⟩
theorem Rows.lt {b o n c:Nat} {p:Option _} (h:Rows size T R w (.slice (some ⟨b,o,p⟩) n c) l) (hl:0 < l.length):b < w.heap.size:=by
 obtain⟨ao,c,e,h1,h2,h3,h4,h5⟩:=h
 injection e with e _ _
 subst e
 obtain⟨cs,fr,h6⟩:=h4 _ rfl hl
 exact lt_of_block h6
theorem Rows.take (h:Rows size T R w v l) (k:Nat):∀ao n c,v=.slice ao n c→k≤n→Rows size T R w (.slice ao k c) (l.take k):=by
 intro ao n c e hk
 obtain⟨ao',c',e',h1,h2,h3,h4,h5⟩:=h
 rw[e] at e'
 injection e' with ea en ec
 subst ea en ec
 have hl:(l.take k).length=k:=by rw[List.length_take];omega
 refine⟨ao,c,by rw[hl],by omega,h2,h3,h4.take (by omega),fun i x hx=>?_⟩
 rw[List.getElem?_take] at hx
 split at hx
 ·exact h5 i x hx
 ·cases hx
end
def be {α:Type} (size:Nat) (R:World→List Value→α→Prop) (w:World) (v:Value) (l:List α):Prop:=
 ∃ao c,v=.slice ao l.length c∧l.length≤c∧c≤9223372036854775807∧(ao=none→c=0)∧
  ∀(i:Nat) (x:α),l[i]?=some x→∃b o cs,ao=some ⟨b,o,none⟩∧cs.length=size∧jp w b (o + i * size) cs∧R w cs x
section
variable {α:Type} {size:Nat} {T:TypeId} {R:World→List Value→α→Prop} {w w':World} {v:Value} {l:List α}
theorem Rows.toI (h:Rows size T R w v l):be size R w v l:=by
 obtain⟨ao,c,e,h1,h2,h3,_,h5⟩:=h
 exact⟨ao,c,e,h1,h2,h3,h5⟩
theorem be.mono (hR:ir R) (h:be size R w v l) (hb:Below w.heap.size w w'):be size R w' v l:=by
 obtain⟨ao,c,e,h1,h2,h3,h5⟩:=h
 refine⟨ao,c,e,h1,h2,h3,fun i x hx=>?_⟩
 obtain⟨b,o,cs,ea,hl,hc,hr⟩:=h5 i x hx
 exact⟨b,o,cs,ea,hl,hc.mono hb,hR _ _ _ _ hr (.of_below hb)⟩
theorem be.slice (h:be size R w v l):∃ao c,v=.slice ao l.length c∧l.length≤c∧c≤9223372036854775807∧(ao=none→c=0):=by
 obtain⟨ao,c,e,h1,h2,h3,_⟩:=h
 exact⟨ao,c,e,h1,h2,h3⟩
theorem be.get (h:be size R w v l) {i:Nat} {x:α} (hx:l[i]?=some x):∃b o c cs,v=.slice (some ⟨b,o,none⟩) l.length c∧cs.length=size∧jp w b (o + i * size) cs∧R w cs x:=by
 obtain⟨ao,c,e,h1,h2,h3,h5⟩:=h
 obtain⟨b,o,cs,ea,hl,hc,hr⟩:=h5 i x hx
 subst ea
 exact⟨b,o,c,cs,e,hl,hc,hr⟩
end
theorem js {size:Nat}:∀(css:List (List Value)),(∀cs∈css,cs.length=size)→∀(i j:Nat) (cs:List Value),css[i]?=some cs→j < size→css.flatten[i * size + j]?=cs[j]?
 | [],_,i,j,cs,h,_=>by simp at h
 | c ::r,hs,i,j,cs,h,hj=>by
  have hc:c.length=size:=hs c (by simp)
  match i with
  | 0=>
   simp only[List.getElem?_cons_zero,Option.some.injEq] at h
   subst h
   rw[List.flatten_cons,List.getElem?_append_left (by omega),Nat.zero_mul,Nat.zero_add]
  | i + 1=>
   rw[List.getElem?_cons_succ] at h
   rw[List.flatten_cons,List.getElem?_append_right (by rw[hc,Nat.succ_mul];omega)]
   rw[show (i + 1) * size + j - c.length=i * size + j from by rw[hc,Nat.succ_mul];omega]
   exact js r (fun x hx=>hs x (List.mem_cons_of_mem _ hx)) i j cs h hj
theorem dz {size:Nat}:∀(css:List (List Value)),(∀cs∈css,cs.length=size)→css.flatten.length=css.length * size
 | [],_=>by simp
 | c ::r,hs=>by
  rw[List.flatten_cons,List.length_append,hs c (by simp),dz r (fun x hx=>hs x (List.mem_cons_of_mem _ hx)),List.length_cons,Nat.succ_mul]
  omega
def cw {α:Type} (base:Nat) (T:TypeId) (size:Nat) (R:World→List Value→α→Prop) (w:World) (v:Value) (l:List α):Prop:=
 ∃css:List (List Value),css.length=l.length∧(∀cs∈css,cs.length=size)∧(∀(i:Nat) (cs:List Value) (x:α),css[i]?=some cs→l[i]?=some x→R w cs x)∧w.ownsRow base T size v l.length css.flatten
section
variable {α:Type} {base:Nat} {size:Nat} {T:TypeId} {R:World→List Value→α→Prop} {w w':World} {v:Value} {l:List α}
theorem cw.nil (w:World) (base:Nat) (T:TypeId) (size:Nat) (R:World→List Value→α→Prop):cw base T size R w (.slice none 0 0) []:=
 ⟨[],rfl,by simp,by simp,World.ownsRow_nil _ _ _ _⟩
theorem cw.own (h:cw base T size R w v l):∃xs,w.ownsRow base T size v l.length xs:=by
 obtain⟨css,_,_,_,h⟩:=h
 exact⟨_,h⟩
theorem cw.slice (h:cw base T size R w v l):∃ao c,v=.slice ao l.length c∧l.length≤c∧c≤9223372036854775807∧(ao=none→c=0):=by
 obtain⟨css,_,_,_,h⟩:=h
 exact rd h
theorem cw.mono (hR:ir R) (h:cw base T size R w v l) (hb:Below w.heap.size w w'):cw base T size R w' v l:=by
 obtain⟨css,h1,h2,h3,h4⟩:=h
 exact⟨css,h1,h2,fun i cs x hc hx=>hR _ _ _ _ (h3 i cs x hc hx) (.of_below hb),qz h4 hb⟩
theorem cw.onlyT (hR:ir R) {t:TypeId} (h:cw base T size R w v l) (ho:dg t w w') (hne:t≠T) (hd:t≠95∧t≠152):cw base T size R w' v l:=by
 obtain⟨css,h1,h2,h3,h4⟩:=h
 exact⟨css,h1,h2,fun i cs x hc hx=>hR _ _ _ _ (h3 i cs x hc hx) (.of_only ho hd),jd8 h4 ho hne⟩
theorem cw.grown (hR:ir R) (h:cw base T size R w v l) {row:Option Nat} (hg:w.grownBy w' row) (hne:v.ownBlock=none∨v.ownBlock≠row) (hk:aw w w'):cw base T size R w' v l:=by
 obtain⟨css,h1,h2,h3,h4⟩:=h
 exact⟨css,h1,h2,fun i cs x hc hx=>hR _ _ _ _ (h3 i cs x hc hx) hk,h4.kept hg hne⟩
theorem cw.rows (h:cw base T size R w v l):Rows size T R w v l:=by
 obtain⟨css,h1,h2,h3,h4⟩:=h
 obtain⟨ao,c,e,hc1,hc2,hc3⟩:=rd h4
 subst e
 refine⟨ao,c,rfl,hc1,hc2,hc3,fun a ea hn=>?_,fun i x hx=>?_⟩
 ·exact owns_ty h4 (by rw[ea];rfl)
 ·have hi:i < l.length:=(List.getElem?_eq_some_iff.1 hx).1
  obtain⟨g,c',hv,_,_⟩:=h4.form (by omega)
  injection hv with hv _ _
  subst hv
  have hcs:css[i]?=some (css[i]'(by omega)):=List.getElem?_eq_getElem (by omega)
  refine⟨g,0,css[i]'(by omega),rfl,h2 _ (List.getElem_mem _),fun j u hu=>?_,h3 i _ x hcs hx⟩
  have hj:j < size:=by
   have:=(List.getElem?_eq_some_iff.1 hu).1
   rw[h2 _ (List.getElem_mem _)] at this
   exact this
  have hf:=js css h2 i j _ hcs hj
  rw[hu] at hf
  have:=h4.cells (g:=g) rfl _ _ hf
  rw[iy,←Nat.add_assoc] at this
  exact this
theorem cw.push (hR:ir R) {css:List (List Value)} (h1:css.length=l.length) (h2:∀cs∈css,cs.length=size) (h3:∀(i:Nat) (cs:List Value) (x:α),css[i]?=some cs→l[i]?=some x→R w cs x) {v':Value} {cs:List Value} {x:α} (hl:cs.length=size) (hx:R w cs x)
  (hown:w'.ownsRow base T size v' (l.length + 1) (css.flatten ++ cs)) (hk:aw w w'):cw base T size R w' v' (l ++ [x]):=by
 refine⟨css ++ [cs],by simp[h1],?_,?_,?_⟩
 ·intro c hc
  rcases List.mem_append.1 hc with h|h
  ·exact h2 c h
  ·simp at h;rw[h];exact hl
 ·intro i c y hc hy
  by_cases hi:i < l.length
  ·rw[List.getElem?_append_left (by omega)] at hc
   rw[List.getElem?_append_left hi] at hy
   exact hR _ _ _ _ (h3 i c y hc hy) hk
  ·have hi':i=l.length:=by
    have:=(List.getElem?_eq_some_iff.1 hy).1
    simp at this
    omega
   subst hi'
   rw[List.getElem?_append_right (by omega),h1] at hc
   rw[List.getElem?_append_right (ag _)] at hy
   simp at hc hy
   subst hc hy
   exact hR _ _ _ _ hx hk
 ·simpa using hown
end
end Go.Proofs.YtidmjdmmpajooaaGreat
namespace Go.Proofs.YtidmjdmmpajooaaGreat
open Go.RowKit Dg
section
variable {w:World} {vx vy:Value} {x y:Rat}
theorem yi (hx:PV w vx x) (hy:PV w vy y) (fx:Fit x) (fy:Fit y):Calls Tryz.prog 15 #[vx,vy] w (mp w (x + y)):=zj _ _ _ _ _ _ hx hy (by omega) fx.p fy.p
theorem pSub (hx:PV w vx x) (hy:PV w vy y) (fx:Fit x) (fy:Fit y):Calls Tryz.prog 17 #[vx,vy] w (mp w (x - y)):=p_Sub_calls _ _ _ _ _ _ hx hy (by omega) fx.p fy.p
theorem pMul (hx:PV w vx x) (hy:PV w vy y) (fx:Fit x) (fy:Fit y):Calls Tryz.prog 16 #[vx,vy] w (mp w (x * y)):=p_Mul_calls _ _ _ _ _ _ hx hy (by omega) fx.p fy.p
theorem uk (hx:PV w vx x) (hy:PV w vy y) (fx:Fit x) (fy:Fit y):Calls Tryz.prog 12 #[vx,vy] w (fj w (.int .i64 (sgQ (x - y)))):=p_Cmp_calls _ _ _ _ _ _ hx hy (by omega) fx.p fy.p
theorem pText (hx:PV w vx x) (fx:Fit x):Calls Tryz.prog 21 #[vx] w (fj w (ib (qh x))):=p_Text_calls _ _ _ _ hx (by omega) fx.p
end
theorem szQ_int {n:Int} (h:n.natAbs < 4294967296):SzQ 1 (n:Rat):=by
 unfold SzQ
 rw[Rat.num_intCast,Rat.den_intCast]
 exact⟨by rwa [Nat.pow_one],by decide⟩
theorem sgQ_le (x:Rat):sgQ x≤0↔¬ 0 < x:=by
 unfold sgQ
 have h1:0 < x↔0 < x.num:=by
  rw[←Rat.not_le,←Int.not_le]
  have:x≤0↔x.num≤0:=by rw[Rat.le_iff];simp
  rw[this]
 rw[h1]
 split
 ·omega
 ·split<;>omega
theorem sgQ_lt (x:Rat):sgQ x < 0↔x < 0:=by
 unfold sgQ
 have h1:x < 0↔x.num < 0:=by rw[Rat.lt_iff];simp
 rw[h1]
 split
 ·omega
 ·split<;>omega
def PC (w:World) (cs:List Value) (x:Rat):Prop:=∃a b c,cs=[a,b,c]∧PV w (.agg #[a,b,c]) x
def RC (w:World) (cs:List Value) (x:Rat):Prop:=∃a b c,cs=[a,b,c]∧RV w (.agg #[a,b,c]) x
theorem PC.kept:ir PC:=fun _ _ _ _ ⟨a,b,c,e,h⟩ hk=>⟨a,b,c,e,h.keep hk⟩
theorem RC.kept:ir RC:=fun _ _ _ _ ⟨a,b,c,e,h⟩ hk=>⟨a,b,c,e,h.keep hk⟩
theorem agg3 {a b c a' b' c':Value} (h:Value.agg #[a,b,c]=Value.agg #[a',b',c']):a=a'∧b=b'∧c=c':=by
 injection h with h
 injection h with h
 injection h with h1 h
 injection h with h2 h
 injection h with h3 h
 exact⟨h1,h2,h3⟩
theorem yk {a a':Option Addr} {n n' c c':Nat} (h:Value.slice a n c=.slice a' n' c'):a=a'∧c=c':=by
 injection h with h1 h2 h3
 exact⟨h1,h3⟩
def BoxP (w:World) (g:Nat) (x:Rat):Prop:=∃s a n c A N C,Bx w g 37 #[.bool s,.slice a n c,.slice A N C]∧PV w (.agg #[.bool s,.slice a n c,.slice A N C]) x
theorem RV.of_eq {w:World} {v:Value} {q q':Rat} (h:RV w v q) (e:q=q'):RV w v q':=e ▸ h
end Go.Proofs.YtidmjdmmpajooaaGreat
namespace Go.Proofs.YtidmjdmmpajooaaGreat
open Go.RowKit Dg
attribute [local go_sem ↓] Go.wp_at_zero Go.wp_at_succ
end Go.Proofs.YtidmjdmmpajooaaGreat
namespace Go.Proofs.YtidmjdmmpajooaaGreat
open Go.RowKit Dg
abbrev Lay:=Rat × Rat × Rat
def layPos (x:Lay):Bool:=decide (0 < x.1) && (decide (0 < x.2.1) && decide (0 < x.2.2))
def LaySz (B:Nat) (x:Lay):Prop:=SzQ B x.1∧SzQ B x.2.1∧SzQ B x.2.2
theorem jn:SzQ 1 (0:Rat):=szQ_int (n:=0) (by decide)
section
variable {l:List Lay} {B:Nat} (hz:∀x∈l,LaySz B x) (hp:∀x∈l,layPos x=true)
include hz hp
end
def C3 (R:World→List Value→Rat→Prop) (w:World) (cs:List Value) (x:Lay):Prop:=∃c1 c2 c3,cs=c1 ++ (c2 ++ c3)∧R w c1 x.1∧R w c2 x.2.1∧R w c3 x.2.2
def C2 (R:World→List Value→Rat→Prop) (w:World) (cs:List Value) (x:Rat × Rat):Prop:=∃c1 c2,cs=c1 ++ c2∧R w c1 x.1∧R w c2 x.2
theorem C3.kept {R:World→List Value→Rat→Prop} (hR:ir R):ir (C3 R):=fun _ _ _ _ ⟨c1,c2,c3,e,h1,h2,h3⟩ hk=>⟨c1,c2,c3,e,hR _ _ _ _ h1 hk,hR _ _ _ _ h2 hk,hR _ _ _ _ h3 hk⟩
theorem C2.kept {R:World→List Value→Rat→Prop} (hR:ir R):ir (C2 R):=fun _ _ _ _ ⟨c1,c2,e,h1,h2⟩ hk=>⟨c1,c2,e,hR _ _ _ _ h1 hk,hR _ _ _ _ h2 hk⟩
end Go.Proofs.YtidmjdmmpajooaaGreat
namespace Go.Proofs.YtidmjdmmpajooaaGreat
open Go.RowKit Dg
structure Gr (gs:List Nat) (w w':World):Prop where
 os:w'.os=w.os
 tape:w'.tape=w.tape
 output:w'.output=w.output
 size:w.heap.size≤w'.heap.size
 block:∀k,k < w.heap.size→k ∉ gs→w'.heap[k]?=w.heap[k]?
def NoD (w:World):List Nat→Prop
 | []=>True
 | g ::r=>(∃T,TyB T w g∧(T≠95∧T≠152))∧NoD w r
theorem NoD.get {w:World}:∀{gs:List Nat},NoD w gs→∀g∈gs,∃T,TyB T w g∧(T≠95∧T≠152)
 | _ ::_,h,g,hg=>by
  rcases List.mem_cons.1 hg with rfl|hg
  ·exact h.1
  ·exact NoD.get h.2 g hg
section
variable {gs:List Nat} {a w:World}
theorem Gr.refl (gs:List Nat) (w:World):Gr gs w w:=⟨rfl,rfl,rfl,ag _,fun _ _ _=>rfl⟩
theorem Gr.set (h:Gr gs a w) {p:Addr} {u:Value} (hp:p.block∈gs:=by first|exact .head _|exact .tail _ (.head _)|exact .tail _ (.tail _ (.head _))):Gr gs a (w.setCell p u):=
 ⟨h.os,h.tape,h.output,by simpa [World.setCell] using h.size,fun k hk hn=>(Below.heap_setCell _ _ _ _ (fun e=>hn (by rw[e];exact hp))).trans (h.block k hk hn)⟩
theorem Gr.alloc (h:Gr gs a w) {o:Obj}:Gr gs a (w.alloc o):=
 ⟨h.os,h.tape,h.output,by have:=h.size;simp;omega,fun k hk hn=>(Below.heap_alloc _ _ _ (by have:=h.size;omega)).trans (h.block k hk hn)⟩
theorem Gr.drew (h:Gr gs a w):Gr gs a w.drew:=⟨h.os,h.tape,h.output,h.size,h.block⟩
theorem Gr.below {B:Nat} (h:Gr gs a w) (hB:B≤a.heap.size) (hg:∀g∈gs,B≤g):Below B a w:=
 ⟨h.os,h.tape,h.output,h.size,fun k hk=>h.block k (by omega) (fun hm=>by have:=hg k hm;omega)⟩
theorem Gr.below0 {B:Nat} (h:Gr [] a w) (hB:B≤a.heap.size):Below B a w:=h.below hB (fun _ hg=>by cases hg)
theorem Gr.below1 {B g:Nat} (h:Gr [g] a w) (hB:B≤a.heap.size) (h1:B≤g):Below B a w:=h.below hB (fun x hx=>by cases hx with|head=>exact h1|tail _ h=>cases h)
theorem Gr.keep (h:Gr gs a w) (hd:NoD a gs):aw a w:=
 ⟨h.size,fun k t hk ht=>h.block k hk.lt (fun hm=>by
  obtain⟨T,hT,h1,h2⟩:=hd.get k hm
  rcases ht with rfl|rfl
  ·exact TyB.ne hT hk h1 rfl
  ·exact TyB.ne hT hk h2 rfl)⟩
theorem Gr.bx {g:Nat} {t:TypeId} {cs:Array Value} (h:Gr gs a w) (hx:Bx a g t cs) (hn:g ∉ gs):Bx w g t cs:=(h.block g hx.lt hn).trans hx
theorem Gr.cell {p:Addr} {v:Value} (h:Gr gs a w) (hc:a.cell? p=some v) (hn:p.block ∉ gs):w.cell? p=some v:=(World.cell?_of_block (h.block p.block (jw hc) hn)).trans hc
theorem Gr.onlyT {T:TypeId} (h:Gr gs a w) (hg:∀g∈gs,TyB T a g):dg T a w:=⟨h.size,fun k hk hn=>h.block k hk (fun hm=>hn (hg k hm))⟩
theorem wh {k:Nat}:k ∉ ([]:List Nat):=fun h=>by cases h
theorem az {k g:Nat} (h:k≠g):k ∉ [g]:=fun hm=>by cases hm with|head=>exact h rfl|tail _ h=>cases h
end
theorem Bx.set3 {w:World} {g:Nat} {t:TypeId} {a b c x y z:Value} (h:Bx w g t #[a,b,c]):Bx (((w.setCell ⟨g,0,none⟩ x).setCell ⟨g,1,none⟩ y).setCell ⟨g,2,none⟩ z) g t #[x,y,z]:=((h.set 0 _ rfl).set 1 _ rfl).set 2 _ rfl
theorem Bx.new0 (w:World) (t:TypeId) (cs:Array Value) {g:Nat} (hg:g=w.heap.size:=by first|rfl|(simp;done)):Bx (w.alloc (.cells cs t)) g t cs:=Bx.new' w t cs g hg
class Mg (A:Prop) (w w':World) (B:outParam Prop):Prop where
  mv:Gr [] w w'→A→B
class MgS (A:Prop) (w w':World) (B:outParam Prop):Prop where
  mv:Gr [] w w'→B→A
section
variable {w w':World}
instance {g:Nat} {t:TypeId} {c:Array Value}:Mg (Bx w g t c) w w' (Bx w' g t c):=⟨fun hb h=>hb.bx h wh⟩
instance {v:Value} {q:Rat}:Mg (PV w v q) w w' (PV w' v q):=⟨fun hb h=>h.keep (hb.keep True.intro)⟩
instance {v:Value} {q:Rat}:Mg (RV w v q) w w' (RV w' v q):=⟨fun hb h=>h.keep (hb.keep True.intro)⟩
instance (priority:=low) {G:Prop}:MgS G w w' G:=⟨fun _ h=>h⟩
instance {A B X Y:Prop} [Mg A w w' B] [MgS X w w' Y]:MgS (A→X) w w' (B→Y):=⟨fun hb h a=>MgS.mv hb (h (Mg.mv hb a))⟩
theorem Gr.b1 {a w:World} {k g:Nat} {t:TypeId} {cs:Array Value} (h:Gr [k] a w) (hx:Bx a g t cs) (hn:g≠k:=by omega):Bx w g t cs:=h.bx hx (az hn)
theorem Gr.c1 {a w:World} {k:Nat} {p:Addr} {v:Value} (h:Gr [k] a w) (hc:a.cell? p=some v) (hn:p.block≠k:=by (dsimp only;omega)):w.cell? p=some v:=h.cell hc (az hn)
theorem Gr.d1 {a w:World} {B g:Nat} (h:Gr [g] a w) (hB:B≤a.heap.size) (h1:B≤g:=by first|omega|assumption):Below B a w:=h.below1 hB h1
theorem g0 {X Y:Prop} [MgS X w w' Y] (hG:Gr [] w w') (h:Y):X:=MgS.mv hG h
end
end Go.Proofs.YtidmjdmmpajooaaGreat
namespace Go.Proofs.YtidmjdmmpajooaaGreat
open Go.RowKit Dg
theorem s1_pos (x:Rat):0 < sgQ x↔0 < x:=by
 have h:=sgQ_le x
 by_cases hc:0 < x
 ·exact⟨fun _=>hc,fun _=>by have:=mt h.1 (fun hn=>hn hc);omega⟩
 ·exact⟨fun h1=>absurd (h.2 hc) (by omega),fun h1=>absurd h1 hc⟩
theorem s1_lt (x:Rat):sgQ x < 0↔x < 0:=sgQ_lt x
theorem rt (x y:Rat):0 < sgQ (x - y)↔y < x:=by rw[s1_pos,←Rat.lt_iff_sub_pos]
theorem qg (x y:Rat):sgQ (x - y) < 0↔x < y:=by
 have e:(0:Rat) - (x - y)=y - x:=by simp[Rat.sub_eq_add_neg,Rat.neg_add,Rat.add_comm,Rat.zero_add,Rat.add_zero]
 rw[s1_lt,Rat.lt_iff_sub_pos,e,←Rat.lt_iff_sub_pos]
theorem RV.zero (w:World):RV w (.agg #[.bool false,.slice none 0 0,.slice none 0 0]) 0:=
 ⟨_,_,0,rfl,⟨_,_,_,[],rfl,Sl.empty _ _ _ _ (by omega) (fun _=>rfl),bi.nil _,rfl⟩,⟨_,_,_,[],rfl,Sl.empty _ _ _ _ (by omega) (fun _=>rfl),bi.nil _,rfl⟩,.inr ⟨rfl,rfl⟩⟩
abbrev Mid (q:Rat):Prop:=SzQ 1000000 q
theorem SzQ.mid {K:Nat} {q:Rat} (h:SzQ K q) (hK:K≤1000000:=by omega):Mid q:=h.mono hK
def PV2 (w:World) (v:Value) (x y:Rat):Prop:=∃a b c d e f,v=.agg #[a,b,c,d,e,f]∧PV w (.agg #[a,b,c]) x∧PV w (.agg #[d,e,f]) y
def RV2 (w:World) (v:Value) (x y:Rat):Prop:=∃a b c d e f,v=.agg #[a,b,c,d,e,f]∧RV w (.agg #[a,b,c]) x∧RV w (.agg #[d,e,f]) y
section
variable {w w':World} {v:Value} {x y:Rat}
theorem PV2.mk {a b c d e f:Value} (h1:PV w (.agg #[a,b,c]) x) (h2:PV w (.agg #[d,e,f]) y):PV2 w (.agg #[a,b,c,d,e,f]) x y:=⟨_,_,_,_,_,_,rfl,h1,h2⟩
theorem RV2.mk {a b c d e f:Value} (h1:RV w (.agg #[a,b,c]) x) (h2:RV w (.agg #[d,e,f]) y):RV2 w (.agg #[a,b,c,d,e,f]) x y:=⟨_,_,_,_,_,_,rfl,h1,h2⟩
theorem PV2.shape (h:PV2 w v x y):∃s a n c A N D s' a' n' c' A' N' D',v=.agg #[.bool s,.slice a n c,.slice A N D,.bool s',.slice a' n' c',.slice A' N' D']∧PV w (.agg #[.bool s,.slice a n c,.slice A N D]) x∧PV w (.agg #[.bool s',.slice a' n' c',.slice A' N' D']) y:=by
 obtain⟨_,_,_,_,_,_,rfl,h1,h2⟩:=h
 obtain⟨_,_,_,_,_,_,_,e⟩:=h1.shape
 obtain⟨rfl,rfl,rfl⟩:=agg3 e
 obtain⟨_,_,_,_,_,_,_,e⟩:=h2.shape
 obtain⟨rfl,rfl,rfl⟩:=agg3 e
 exact⟨_,_,_,_,_,_,_,_,_,_,_,_,_,_,rfl,h1,h2⟩
theorem RV2.shape (h:RV2 w v x y):∃s a n c A N D s' a' n' c' A' N' D',v=.agg #[.bool s,.slice a n c,.slice A N D,.bool s',.slice a' n' c',.slice A' N' D']∧RV w (.agg #[.bool s,.slice a n c,.slice A N D]) x∧RV w (.agg #[.bool s',.slice a' n' c',.slice A' N' D']) y:=by
 obtain⟨_,_,_,_,_,_,rfl,h1,h2⟩:=h
 obtain⟨_,_,_,_,_,_,_,e⟩:=h1.shape
 obtain⟨rfl,rfl,rfl⟩:=agg3 e
 obtain⟨_,_,_,_,_,_,_,e⟩:=h2.shape
 obtain⟨rfl,rfl,rfl⟩:=agg3 e
 exact⟨_,_,_,_,_,_,_,_,_,_,_,_,_,_,rfl,h1,h2⟩
theorem PV2.mono (h:PV2 w v x y) (hb:Below w.heap.size w w'):PV2 w' v x y:=by
 obtain⟨_,_,_,_,_,_,rfl,h1,h2⟩:=h
 exact .mk (h1.mono hb) (h2.mono hb)
theorem RV2.mono (h:RV2 w v x y) (hb:Below w.heap.size w w'):RV2 w' v x y:=by
 obtain⟨_,_,_,_,_,_,rfl,h1,h2⟩:=h
 exact .mk (h1.mono hb) (h2.mono hb)
end
def bj (L:List Rat) (i:Nat):Rat:=L.getD i 0
theorem ia {L:List Rat} {i:Nat} (h:i < L.length):L[i]?=some (bj L i):=by unfold bj;rw[List.getD_eq_getElem?_getD,List.getElem?_eq_getElem h];rfl
theorem PC.cells {w:World} {cs:List Value} {x:Rat} (h:PC w cs x):∃g a n c A N D,cs=[.bool g,.slice a n c,.slice A N D]∧PV w (.agg #[.bool g,.slice a n c,.slice A N D]) x:=by
 obtain⟨_,_,_,rfl,h⟩:=h
 obtain⟨g,a,n,c,A,N,D,e⟩:=h.shape
 obtain⟨rfl,rfl,rfl⟩:=agg3 e
 exact⟨g,a,n,c,A,N,D,rfl,h⟩
theorem RC.cells {w:World} {cs:List Value} {x:Rat} (h:RC w cs x):∃g a n c A N D,cs=[.bool g,.slice a n c,.slice A N D]∧RV w (.agg #[.bool g,.slice a n c,.slice A N D]) x:=by
 obtain⟨_,_,_,rfl,h⟩:=h
 obtain⟨g,a,n,c,A,N,D,e⟩:=h.shape
 obtain⟨rfl,rfl,rfl⟩:=agg3 e
 exact⟨g,a,n,c,A,N,D,rfl,h⟩
theorem ug {w:World} {T:TypeId} {b o n c:Nat} {L:List Rat} {i:Nat} (h:Rows 3 T PC w (.slice (some ⟨b,o,none⟩) n c) L) (hi:i < L.length):
  ∃g a n' c' A N D,w.cell? ⟨b,o + i * 3,none⟩=some (.bool g)∧w.cell? ⟨b,o + i * 3 + 1,none⟩=some (.slice a n' c')∧w.cell? ⟨b,o + i * 3 + 2,none⟩=some (.slice A N D)∧PV w (.agg #[.bool g,.slice a n' c',.slice A N D]) (bj L i)∧b < w.heap.size:=by
 obtain⟨b',o',c',cs,hv,_,hat,hc⟩:=h.get (ia hi)
 obtain⟨e,rfl⟩:=yk hv
 injection e with e
 injection e with e1 e2
 subst e1 e2
 obtain⟨g,a,n',c',A,N,D,rfl,hp⟩:=hc.cells
 exact⟨g,a,n',c',A,N,D,hat 0 _ rfl,hat 1 _ rfl,hat 2 _ rfl,hp,jw (hat 0 _ rfl)⟩
theorem Rows.gr {α:Type} {size:Nat} {T:TypeId} {R:World→List Value→α→Prop} {gs:List Nat} {w w':World} {b o n c:Nat} {l:List α} (h:Rows size T R w (.slice (some ⟨b,o,none⟩) n c) l) (hR:ir R) (hG:Gr gs w w') (hn:b ∉ gs) (hk:aw w w'):
  Rows size T R w' (.slice (some ⟨b,o,none⟩) n c) l:=by
 obtain⟨ao,c',e,h1,h2,h3,h4,h5⟩:=h
 injection e with ea en ec
 subst ea en ec
 refine⟨_,_,rfl,h1,h2,h3,fun a ea hl=>?_,fun i x hx=>?_⟩
 ·cases ea
  obtain⟨cs,fr,h6⟩:=h4 _ rfl hl
  exact⟨cs,fr,(hG.block b (lt_of_block h6) hn).trans h6⟩
 ·obtain⟨b',o',cs,ea,hl,hc,hr⟩:=h5 i x hx
  cases ea
  exact⟨b,o,cs,rfl,hl,fun j u hu=>hG.cell (hc j u hu) hn,hR _ _ _ _ hr hk⟩
section
variable {w w':World}
instance {v:Value} {x y:Rat}:Mv (PV2 w v x y) w w' (PV2 w' v x y):=⟨fun hb h=>h.mono hb⟩
instance {v:Value} {x y:Rat}:Mv (RV2 w v x y) w w' (RV2 w' v x y):=⟨fun hb h=>h.mono hb⟩
end
end Go.Proofs.YtidmjdmmpajooaaGreat
namespace Go.Proofs.YtidmjdmmpajooaaGreat
open Go.RowKit Dg
end Go.Proofs.YtidmjdmmpajooaaGreat
namespace Go.Proofs.YtidmjdmmpajooaaGreat
open Go.RowKit Dg
def Ap (o:Option Nat) (g:Nat):Prop:=o≠some g
def Ap2 (o p:Option Nat):Prop:=∀g,o=some g→p≠some g
theorem Ap.ne {o:Option Nat} {g:Nat} (h:Ap o g):some g≠o:=fun e=>h e.symm
theorem Ap.app {o:Option Nat} {g b H:Nat} (h:Ap o b) (hl:o=some g∨g=H) (hb:b < H):Ap (some g) b:=fun e=>by
 injection e with e
 rcases hl with h1|h1
 ·exact h (e ▸ h1)
 ·omega
theorem Ap.one {o:Option Nat} {g:Nat} (h:Ap o g):∀k∈[g],Ap o k:=fun k hk=>by
 cases hk with
 | head=>exact h
 | tail _ hk=>cases hk
theorem Ap2.nil (p:Option Nat):Ap2 none p:=fun _ h=>by cases h
theorem Ap2.symm {o p:Option Nat} (h:Ap2 o p):Ap2 p o:=fun g h1 h2=>h g h2 h1
theorem Ap2.or {o p:Option Nat} (h:Ap2 o p):p=none∨p≠o:=by
 cases o with
 | none=>cases p with
  | none=>exact .inl rfl
  | some k=>exact .inr (fun h=>by cases h)
 | some g=>exact .inr (h g rfl)
section
variable {α:Type} {base:Nat} {size:Nat} {T:TypeId} {R:World→List Value→α→Prop} {w w':World} {v u:Value} {l:List α}
theorem cw.ap (h:cw base T size R w v l) {g:Nat} (hg:w.heap.size≤g):Ap v.ownBlock g:=fun e=>by
 obtain⟨css,_,_,_,h4⟩:=h
 have:=(h4.lt g e).2
 omega
theorem Ap2.app {o:Option Nat} {g H:Nat} (h:Ap2 o u.ownBlock) (hl:o=some g∨g=H) (ho:cw base T size R w u l) (hH:w.heap.size≤H):Ap2 (some g) u.ownBlock:=fun k e=>by
 injection e with e
 subst e
 rcases hl with h1|h1
 ·exact h g h1
 ·exact ho.ap (by omega)
theorem cw.gr (hR:ir R) (h:cw base T size R w v l) {gs:List Nat} (hG:Gr gs w w') (hn:∀g∈gs,Ap v.ownBlock g) (hk:aw w w'):cw base T size R w' v l:=by
 obtain⟨css,h1,h2,h3,h4⟩:=h
 refine⟨css,h1,h2,fun i cs x hc hx=>hR _ _ _ _ (h3 i cs x hc hx) hk,?_⟩
 obtain⟨e1,e2⟩:=h4
 refine⟨e1,?_⟩
 rcases e2 with e2|⟨g,cap,cur,rfl,hb,hg,r⟩
 ·exact .inl e2
 ·refine .inr ⟨g,cap,cur,rfl,hb,?_,r⟩
  rw[hG.block g (lt_of_block hg) (fun hm=>hn g hm rfl)]
  exact hg
theorem cw.push' (hR:ir R) {css:List (List Value)} (h1:css.length=l.length) (h2:∀cs∈css,cs.length=size) (h3:∀(i:Nat) (cs:List Value) (x:α),css[i]?=some cs→l[i]?=some x→R w cs x) {v':Value} {cs:List Value} {x:α} (hl:cs.length=size) (hx:R w cs x)
  {n:Nat} (hn:l.length=n) (hown:w'.ownsRow base T size v' (n + 1) (css.flatten ++ cs)) (hk:aw w w'):cw base T size R w' v' (l ++ [x]):=by
 subst hn
 exact cw.push hR h1 h2 h3 hl hx hown hk
theorem el (hR:ir R) (v:Value) (W W':World) (h:Rows size T R W v l) (hb:Below W.heap.size W W'):Rows size T R W' v l:=h.mono hR hb
end
end Go.Proofs.YtidmjdmmpajooaaGreat
namespace Go.Proofs.YtidmjdmmpajooaaGreat
open Go
section
variable {P:Program} {ops:Array Oper} {Q:Exit→Act→World→Prop} {md:Region.Mode} {S:World→Prop} {m:Nat}
def cq (P:Program) (md:Region.Mode) (ops:Array Oper) (Q:Exit→Act→World→Prop) (S:World→Prop) (m:Nat):Nat→Array Bool→Act→World→Prop
 | 0,listed,a,w=>Region.ready md ops listed=[]∧Q .normal a w
 | fuel + 1,listed,a,w=>
  (Region.ready md ops listed=[]→Q .normal a w)∧
  ∀i∈Region.ready md ops listed,wpOp P ops Q i (fun a' w'=>(i=m∨S w')∧cq P md ops Q S m fuel (listed.setIfInBounds i true) a' w') a w
theorem cq.abs {fuel:Nat} {listed:Array Bool} {a:Act} {w:World} (h:∀w',w'=w→cq P md ops Q S m fuel listed a w'):cq P md ops Q S m fuel listed a w:=h w rfl
theorem jb7:∀(fuel:Nat) (listed:Array Bool) (a:Act) (w:World),cq P md ops Q S m fuel listed a w→wpAny P md ops Q fuel listed a w
 | 0,_,_,_,h=>h
 | fuel + 1,_,_,_,h=>⟨h.1,fun i hi=>wpOp_mono (fun a' w' h'=>jb7 fuel _ a' w' h'.2) (h.2 i hi)⟩
def ml (md:Region.Mode) (ops:Array Oper) (m i:Nat):Bool:=((ops[m]?).map fun o=>o.after.any fun e=>Region.binds md e && e.on == i).getD false
theorem ow {listed:Array Bool} {i:Nat} (hw:ml md ops m i=true) (hi:i∈Region.ready md ops listed):¬ m∈Region.ready md ops listed:=by
 intro hm
 obtain⟨_,om,hom,hall⟩:=mem_ready.1 hm
 unfold ml at hw
 rw[hom] at hw
 simp only[Option.map_some,Option.getD_some,Array.any_eq_true,Bool.and_eq_true,beq_iff_eq] at hw
 obtain⟨k,hk,hb,he⟩:=hw
 have h1:=hall _ (Array.getElem_mem hk) hb
 have h0:=(mem_ready.1 hi).1
 rw[he] at h1
 rcases Nat.lt_or_ge i listed.size with h'|h'
 ·simp[h'] at h0 h1;rw[h0] at h1;cases h1
 ·simp[Array.getElem?_eq_none h'] at h1
theorem U_first {i:Nat} {oi:Oper} {v:Value} (hi:ops[i]?=some oi) (hwt:ml md ops m i=true) (hsel:∀(j:Nat) (o:Oper) cs b,ops[j]?=some o→o.op≠.select cs b)
  (hQ:∀c a w,Q (.panic c) (a.put oi.dst v) w→Q (.panic c) a w):
  ∀(fuel:Nat) (listed:Array Bool) (a:Act) (w:World),
   (∀j oj,ops[j]?=some oj→j≠i→listed.getD j true=false→(∀e∈oj.after,Region.binds md e=true→e.on≠i)→oi.apart ops oj=true)→
   i∈Region.ready md ops listed→YieldsIf P ops S oi v a→S w→
   cq P md ops Q S m fuel (listed.setIfInBounds i true) (a.put oi.dst v) w→cq P md ops Q S m (fuel + 1) listed a w:=by
 intro fuel
 induction fuel with
 | zero=>
  intro listed a w _ hr hy hS H
  refine⟨fun h=>(by rw[h] at hr;cases hr),fun j hj=>?_⟩
  by_cases hji:j=i
  ·subst hji;exact hy.wpOp hi hS ⟨.inr hS,H⟩
  ·have:=ready_mono hj hji
   rw[H.1] at this
   cases this
 | succ fuel ih=>
  intro listed a w hfree hr hy hS H
  refine⟨fun h=>(by rw[h] at hr;cases hr),fun j hj=>?_⟩
  by_cases hji:j=i
  ·subst hji;exact hy.wpOp hi hS ⟨.inr hS,H⟩
  ·have hjm:j≠m:=fun e=>ow hwt hr (e ▸ hj)
   have h1:=H.2 j (ready_mono hj hji)
   obtain⟨hjun,oj,hoj,hall⟩:=mem_ready.1 hj
   have hnot:∀e∈oj.after,Region.binds md e=true→e.on≠i:=fun e he hb heq=>by
    have h1:=hall e he hb
    have h0:=(mem_ready.1 hr).1
    rw[heq] at h1
    rcases Nat.lt_or_ge i listed.size with h'|h'
    ·simp[h'] at h0 h1;rw[h0] at h1;cases h1
    ·simp[Array.getElem?_eq_none h'] at h1
   have h2:=wpOp_putIf hoj (hfree j oj hoj hji hjun hnot) (fun cs b=>hsel i oi cs b hi) (fun cs b=>hsel j oj cs b hoj) hQ hy h1
   have hfree':∀k ok,ops[k]?=some ok→k≠i→(listed.setIfInBounds j true).getD k true=false→
     (∀e∈ok.after,Region.binds md e=true→e.on≠i)→oi.apart ops ok=true:=fun k ok hk hki hun hno=>by
    refine hfree k ok hk hki ?_ hno
    by_cases hjk:j=k
    ·subst hjk;exact hjun
    ·rw[getD_set_ne true hjk] at hun;exact hun
   refine wpOp_mono (fun a' w' h3=>⟨.inr (h3.2.1.resolve_left hjm),ih (listed.setIfInBounds j true) a' w' hfree' (ready_mono hr (Ne.symm hji)) h3.1 (h3.2.1.resolve_left hjm) ?_⟩) h2
   rw[Array.setIfInBounds_comm _ _ hji]
   exact h3.2.2
theorem U_take {i:Nat} {oi:Oper} {v:Value} {fuel:Nat} {listed:Array Bool} {a:Act} {w:World} (hi:ops[i]?=some oi) (hwt:ml md ops m i=true)
  (hs:Region.noSelect ops=true) (hf:Region.free md ops listed i=true) (hr:(Region.ready md ops listed).contains i=true)
  (hQ:∀c a w,Q (.panic c) (a.put oi.dst v) w→Q (.panic c) a w) (hy:YieldsIf P ops S oi v a) (hS:S w)
  (h:cq P md ops Q S m fuel (listed.setIfInBounds i true) (a.put oi.dst v) w):cq P md ops Q S m (fuel + 1) listed a w:=
 U_first hi hwt (Region.noSelect_spec hs) hQ fuel listed a w (Region.free_spec hi hf) (by simpa using hr) hy hS h
theorem U_one {i:Nat} {o:Oper} {fuel:Nat} {listed:Array Bool} {a:Act} {w:World} (hr:Region.ready md ops listed=[i]) (ho:ops[i]?=some o)
  (h:∀K':Act→World→Prop,Shut (∀a w,S w→(S w→cq P md ops Q S m fuel (listed.setIfInBounds i true) a w)→K' a w)→if Region.wanted o (yielded ops a.tmps)=true then Oper.wp P o a w K' Q else K' (a.put o.dst undef) w):
  cq P md ops Q S m (fuel + 1) listed a w:=by
 refine⟨fun h0=>(by rw[h0] at hr;cases hr),fun j hj=>?_⟩
 rw[hr] at hj
 simp only[List.mem_singleton] at hj
 subst hj
 exact wpOp_step ho (fun K' hK=>h K' (fun a w hS hW=>hK a w ⟨.inr hS,hW hS⟩))
theorem dq {i j:Nat} {oi oj:Oper} {fuel:Nat} {listed:Array Bool} {a:Act} {w:World} (hr:Region.ready md ops listed=[i,j]) (hi:ops[i]?=some oi) (hj:ops[j]?=some oj)
  (h1:∀K':Act→World→Prop,Shut (∀a w,S w→(S w→cq P md ops Q S m fuel (listed.setIfInBounds i true) a w)→K' a w)→if Region.wanted oi (yielded ops a.tmps)=true then Oper.wp P oi a w K' Q else K' (a.put oi.dst undef) w)
  (h2:∀K':Act→World→Prop,Shut (∀a w,S w→(S w→cq P md ops Q S m fuel (listed.setIfInBounds j true) a w)→K' a w)→if Region.wanted oj (yielded ops a.tmps)=true then Oper.wp P oj a w K' Q else K' (a.put oj.dst undef) w):
  cq P md ops Q S m (fuel + 1) listed a w:=by
 refine⟨fun h0=>(by rw[h0] at hr;cases hr),fun k hk=>?_⟩
 rw[hr] at hk
 simp only[List.mem_cons,List.mem_nil_iff,or_false] at hk
 rcases hk with rfl|rfl
 ·exact wpOp_step hi (fun K' hK=>h1 K' (fun a w hS hW=>hK a w ⟨.inr hS,hW hS⟩))
 ·exact wpOp_step hj (fun K' hK=>h2 K' (fun a w hS hW=>hK a w ⟨.inr hS,hW hS⟩))
theorem dr {o:Oper} {fuel:Nat} {listed:Array Bool} {a:Act} {w:World} (hr:Region.ready md ops listed=[m]) (ho:ops[m]?=some o)
  (hr':Region.ready md ops (listed.setIfInBounds m true)=[])
  (h:∀K':Act→World→Prop,Shut (∀a w,(∀w',w'=w→Q .normal a w')→K' a w)→if Region.wanted o (yielded ops a.tmps)=true then Oper.wp P o a w K' Q else K' (a.put o.dst undef) w):
  cq P md ops Q S m (fuel + 1) listed a w:=by
 refine⟨fun h0=>(by rw[h0] at hr;cases hr),fun j hj=>?_⟩
 rw[hr] at hj
 simp only[List.mem_singleton] at hj
 subst hj
 refine wpOp_step ho (fun K' hK=>h K' (fun a w hq=>hK a w ⟨.inl rfl,?_⟩))
 have hq:=hq w rfl
 cases fuel with
 | zero=>exact⟨hr',hq⟩
 | succ n=>exact⟨fun _=>hq,by rw[hr'];simp⟩
theorem bw {id:Nat} {a:Act} {w:World} (hm:P.follows .mixedOrders=true) (m:Nat)
  (h:cq P .any ops Q S m ops.size (Array.replicate ops.size false) a w.drew):(Code.region id ops true).wp P Q a w:=
 wp_region_any hm (jb7 _ _ _ _ h)
end
end Go.Proofs.YtidmjdmmpajooaaGreat
