/-
  The contracts of the program's fractions, fifth part: Text.
-/
import Derived.Test.YtidmjdmmpajooaaGreatRatP4N
import Derived.Test.YtidmjdmmpajooaaGreatPkV2N
import Derived.Test.YtidmjdmmpajooaaGreatPkV3N
import Derived.RangeFuncBox
import Derived.Deep.AppendLies
import Derived.OwnWalkIn
import Derived.Sort.CutIn
set_option linter.unusedSimpArgs false
set_option linter.unusedVariables false
set_option maxRecDepth 100000
set_option maxHeartbeats 4000000
namespace Go.Proofs.YtidmjdmmpajooaaGreat
open Go.RowKit Dg
theorem decS_lenP {n K:Nat} (h:n < 18446744073709551616 ^ K):(dw n).length≤64 * K + 1:=by
 unfold dw
 split
 ·simp
 have h1:=qw n
 have h2:bl n≤64 * K:=jy (by rwa [show (18446744073709551616:Nat)=2 ^ 64 from rfl,←Nat.pow_mul] at h)
 omega
theorem p_Text_calls (vx:Value) (x:Rat) (K:Nat) (w:World) (hx:PV w vx x) (hK:K≤268435456) (sx:SzP K x):Calls Tryz.prog 21 #[vx] w (fj w (ib (qh x))):=by
 obtain⟨gx,ax,nx,cx,Ax,Nx,Cx,rfl⟩:=hx.shape
 have egx:=hx.sign
 have EGx:=ae egx
 have hxn:=hx.parts.2.1
 have hxd:=hx.parts.2.2
 have sx1:=sx.1
 have sx2:=sx.2
 have l1:=decS_lenP sx1
 have l2:=decS_lenP sx2
 have hK':K≤536870912:=by omega
 have htx:qh x=(if ng x then [45] else []) ++ dw x.num.natAbs ++ (if x.den=1 then [] else 47 ::dw x.den):=rfl
 rw[←egx] at htx
 generalize qh x=T at *
 have hdx:=x.den_pos
 have hNx:Nx≤9223372036854775807:=by
  obtain⟨ao,n,c,l,e,hsl,hcl,hvl⟩:=hxd
  cases e
  have:=hsl.cap;have:=hsl.max;omega
 have hN0:0 < Nx↔x.den≠1:=by
  obtain⟨ao,n,c,l,e,hsl,hcl,hvl⟩:=hxd
  cases e
  have:=hcl.length_pos_iff (by omega)
  rw[hsl.len,hvl] at this
  rw[this]
  split<;>omega
 generalize x.num.natAbs=xn at *
 generalize x.den=xd at *
 have HT:=ae htx
 clear htx
 clear egx
 have hs:=Below.refl w.heap.size w
 cases gx
 ·clear hx
  by_cases h1:xd=1
  ·have hn:Nx=0:=by omega
   subst hn
   have H1:=ae h1
   clear h1 hN0
   go_enter Tryz.func21,Tryz.ntmps21
   go_wp2_with fail
   refine Calls.abs ?_
   intro w1 hW
   have hsz:=hs.size
   have hs1:Below w.heap.size w w1:=by rw[hW];exact (Below.alloc hs (by first|exact hs.size|(have:=hs.size;simp;done)|(have:=hs.size;simp;omega)) _)
   have hk:aw w w1:=by rw[hW];exact ((aw.refl _).alloc _)
   have Bl1x:Bx w1 (w.heap.size) 37 #[.bool false,.slice ax nx cx,.slice Ax 0 Cx]:=by rw[hW];exact (Bx.new' _ _ _ _ (by first|rfl|(simp;done)))
   replace hs:=hs1
   clear hs1
   have Blx:=Bl1x
   clear Bl1x
   revert hxd;revert hxn;refine ke hk ?_;intro hxn hxd
   clear hW hk hsz
   have hz_w1:=Blx.lt
   refine (tx hxn sx1 hK').mono ?_
   rintro e w2 ⟨rfl,hb⟩
   revert Blx hxn hxd;refine mS hs hb ?_;clear hs hb;intro hs Blx hxn hxd
   unfold ib
   refine Blx.k3 fun B0 B1 B2=>?_
   go_wp2
   go_ret
   refine⟨?_,hs⟩
   rw[HT.out,if_pos H1.out]
   simp[ib]
  have hn:0 < Nx:=by omega
  rw[if_neg h1] at hxd
  have H1:=ae h1
  clear h1 hN0
  go_enter Tryz.func21,Tryz.ntmps21
  go_wp2_with fail
  refine Calls.abs ?_
  intro w1 hW
  have hsz:=hs.size
  have hs1:Below w.heap.size w w1:=by rw[hW];exact (Below.alloc hs (by first|exact hs.size|(have:=hs.size;simp;done)|(have:=hs.size;simp;omega)) _)
  have hk:aw w w1:=by rw[hW];exact ((aw.refl _).alloc _)
  have Bl1x:Bx w1 (w.heap.size) 37 #[.bool false,.slice ax nx cx,.slice Ax Nx Cx]:=by rw[hW];exact (Bx.new' _ _ _ _ (by first|rfl|(simp;done)))
  replace hs:=hs1
  clear hs1
  have Blx:=Bl1x
  clear Bl1x
  revert hxd;revert hxn;refine ke hk ?_;intro hxn hxd
  clear hW hk hsz
  have hz_w1:=Blx.lt
  refine (tx hxn sx1 hK').mono ?_
  rintro e w2 ⟨rfl,hb⟩
  revert Blx hxn hxd;refine mS hs hb ?_;clear hs hb;intro hs Blx hxn hxd
  unfold ib
  refine Blx.k3 fun B0 B1 B2=>?_
  go_wp2_with fail
  clear B0 B1 B2
  refine (tx hxd sx2 hK').mono ?_
  rintro e w3 ⟨rfl,hb⟩
  revert Blx hxn hxd;refine mS hs hb ?_;clear hs hb;intro hs Blx hxn hxd
  unfold ib
  have hcat:∀W:World,(Op.stringOp .add ⟨#[47]⟩ ⟨(dw xd).toArray⟩).run Tryz.prog W=.ok (.string ⟨(47 ::dw xd).toArray⟩) W:=fun W=>oh W _ [47] (dw xd) (by simp only[List.length_cons,List.length_nil];omega)
  have hcat2:∀W:World,(Op.stringOp .add ⟨(dw xn).toArray⟩ ⟨(47 ::dw xd).toArray⟩).run Tryz.prog W=.ok (.string ⟨((dw xn) ++ (47 ::dw xd)).toArray⟩) W:=fun W=>oh W _ (dw xn) (47 ::dw xd) (by simp only[List.length_cons];omega)
  go_wp2
  go_ret
  refine⟨?_,hs⟩
  rw[HT.out,if_neg H1.out]
  first|(simp[ib];done)|(simp[ib,ja])
 clear hx
 by_cases h1:xd=1
 ·have hn:Nx=0:=by omega
  subst hn
  have H1:=ae h1
  clear h1 hN0
  go_enter Tryz.func21,Tryz.ntmps21
  go_wp2_with fail
  refine Calls.abs ?_
  intro w1 hW
  have hsz:=hs.size
  have hs1:Below w.heap.size w w1:=by rw[hW];exact (Below.alloc hs (by first|exact hs.size|(have:=hs.size;simp;done)|(have:=hs.size;simp;omega)) _)
  have hk:aw w w1:=by rw[hW];exact ((aw.refl _).alloc _)
  have Bl1x:Bx w1 (w.heap.size) 37 #[.bool true,.slice ax nx cx,.slice Ax 0 Cx]:=by rw[hW];exact (Bx.new' _ _ _ _ (by first|rfl|(simp;done)))
  replace hs:=hs1
  clear hs1
  have Blx:=Bl1x
  clear Bl1x
  revert hxd;revert hxn;refine ke hk ?_;intro hxn hxd
  clear hW hk hsz
  have hz_w1:=Blx.lt
  refine (tx hxn sx1 hK').mono ?_
  rintro e w2 ⟨rfl,hb⟩
  revert Blx hxn hxd;refine mS hs hb ?_;clear hs hb;intro hs Blx hxn hxd
  unfold ib
  refine Blx.k3 fun B0 B1 B2=>?_
  have hcat:∀W:World,(Op.stringOp .add ⟨#[45]⟩ ⟨(dw xn).toArray⟩).run Tryz.prog W=.ok (.string ⟨(45 ::dw xn).toArray⟩) W:=fun W=>oh W _ [45] (dw xn) (by simp only[List.length_cons,List.length_nil];omega)
  go_wp2
  go_ret
  refine⟨?_,hs⟩
  rw[HT.out,if_pos H1.out]
  simp[ib]
 have hn:0 < Nx:=by omega
 rw[if_neg h1] at hxd
 have H1:=ae h1
 clear h1 hN0
 go_enter Tryz.func21,Tryz.ntmps21
 go_wp2_with fail
 refine Calls.abs ?_
 intro w1 hW
 have hsz:=hs.size
 have hs1:Below w.heap.size w w1:=by rw[hW];exact (Below.alloc hs (by first|exact hs.size|(have:=hs.size;simp;done)|(have:=hs.size;simp;omega)) _)
 have hk:aw w w1:=by rw[hW];exact ((aw.refl _).alloc _)
 have Bl1x:Bx w1 (w.heap.size) 37 #[.bool true,.slice ax nx cx,.slice Ax Nx Cx]:=by rw[hW];exact (Bx.new' _ _ _ _ (by first|rfl|(simp;done)))
 replace hs:=hs1
 clear hs1
 have Blx:=Bl1x
 clear Bl1x
 revert hxd;revert hxn;refine ke hk ?_;intro hxn hxd
 clear hW hk hsz
 have hz_w1:=Blx.lt
 refine (tx hxn sx1 hK').mono ?_
 rintro e w2 ⟨rfl,hb⟩
 revert Blx hxn hxd;refine mS hs hb ?_;clear hs hb;intro hs Blx hxn hxd
 unfold ib
 refine Blx.k3 fun B0 B1 B2=>?_
 have hcat:∀W:World,(Op.stringOp .add ⟨#[45]⟩ ⟨(dw xn).toArray⟩).run Tryz.prog W=.ok (.string ⟨(45 ::dw xn).toArray⟩) W:=fun W=>oh W _ [45] (dw xn) (by simp only[List.length_cons,List.length_nil];omega)
 go_wp2_with fail
 clear B0 B1 B2 hcat
 refine (tx hxd sx2 hK').mono ?_
 rintro e w3 ⟨rfl,hb⟩
 revert Blx hxn hxd;refine mS hs hb ?_;clear hs hb;intro hs Blx hxn hxd
 unfold ib
 have hcat:∀W:World,(Op.stringOp .add ⟨#[47]⟩ ⟨(dw xd).toArray⟩).run Tryz.prog W=.ok (.string ⟨(47 ::dw xd).toArray⟩) W:=fun W=>oh W _ [47] (dw xd) (by simp only[List.length_cons,List.length_nil];omega)
 have hcat2:∀W:World,(Op.stringOp .add ⟨(45 ::dw xn).toArray⟩ ⟨(47 ::dw xd).toArray⟩).run Tryz.prog W=.ok (.string ⟨((45 ::dw xn) ++ (47 ::dw xd)).toArray⟩) W:=fun W=>oh W _ (45 ::dw xn) (47 ::dw xd) (by simp only[List.length_cons];omega)
 go_wp2
 go_ret
 refine⟨?_,hs⟩
 rw[HT.out,if_neg H1.out]
 first|(simp[ib];done)|(simp[ib,ja])
end Go.Proofs.YtidmjdmmpajooaaGreat
namespace Go.Proofs.YtidmjdmmpajooaaGreat
open Go.RowKit Dg
section
variable {w:World} {vx vy:Value} {x y:Rat}
theorem yi (hx:PV w vx x) (hy:PV w vy y) (fx:Fit x) (fy:Fit y):Calls Tryz.prog 15 #[vx,vy] w (mp w (x + y)):=zj _ _ _ _ _ _ hx hy (by omega) fx.p fy.p
theorem pSub (hx:PV w vx x) (hy:PV w vy y) (fx:Fit x) (fy:Fit y):Calls Tryz.prog 17 #[vx,vy] w (mp w (x - y)):=p_Sub_calls _ _ _ _ _ _ hx hy (by omega) fx.p fy.p
theorem pMul (hx:PV w vx x) (hy:PV w vy y) (fx:Fit x) (fy:Fit y):Calls Tryz.prog 16 #[vx,vy] w (mp w (x * y)):=p_Mul_calls _ _ _ _ _ _ hx hy (by omega) fx.p fy.p
theorem pDiv (hx:PV w vx x) (hy:PV w vy y) (fx:Fit x) (fy:Fit y) (hy0:y≠0):Calls Tryz.prog 90 #[vx,vy] w (RetPE w (x / y) 0):=p_Div_calls _ _ _ _ _ _ hx hy (by omega) fx.p fy.p hy0
theorem uk (hx:PV w vx x) (hy:PV w vy y) (fx:Fit x) (fy:Fit y):Calls Tryz.prog 12 #[vx,vy] w (fj w (.int .i64 (sgQ (x - y)))):=p_Cmp_calls _ _ _ _ _ _ hx hy (by omega) fx.p fy.p
theorem pText (hx:PV w vx x) (fx:Fit x):Calls Tryz.prog 21 #[vx] w (fj w (ib (qh x))):=p_Text_calls _ _ _ _ hx (by omega) fx.p
theorem pSign (hx:PV w vx x):Calls Tryz.prog 11 #[vx] w (fj w (.int .i64 (sgQ x))):=jb _ _ _ hx
end
theorem szQ_int {n:Int} (h:n.natAbs < 4294967296):SzQ 1 (n:Rat):=by
 unfold SzQ
 rw[Rat.num_intCast,Rat.den_intCast]
 exact⟨by rwa [Nat.pow_one],by decide⟩
theorem sgQ_le (x:Rat):sgQ x≤0↔¬ 0 < x:=by
 unfold sgQ
 have h1:0 < x↔0 < x.num:=by
  rw[←Rat.not_le,←Int.not_le]
  have:x≤0↔x.num≤0:=by rw[Rat.le_iff];simp
  rw[this]
 rw[h1]
 split
 ·omega
 ·split<;>omega
theorem sgQ_lt (x:Rat):sgQ x < 0↔x < 0:=by
 unfold sgQ
 have h1:x < 0↔x.num < 0:=by rw[Rat.lt_iff];simp
 rw[h1]
 split
 ·omega
 ·split<;>omega
def PC (w:World) (cs:List Value) (x:Rat):Prop:=∃a b c,cs=[a,b,c]∧PV w (.agg #[a,b,c]) x
def RC (w:World) (cs:List Value) (x:Rat):Prop:=∃a b c,cs=[a,b,c]∧RV w (.agg #[a,b,c]) x
theorem PC.kept:ir PC:=fun _ _ _ _ ⟨a,b,c,e,h⟩ hk=>⟨a,b,c,e,h.keep hk⟩
theorem RC.kept:ir RC:=fun _ _ _ _ ⟨a,b,c,e,h⟩ hk=>⟨a,b,c,e,h.keep hk⟩
theorem agg3 {a b c a' b' c':Value} (h:Value.agg #[a,b,c]=Value.agg #[a',b',c']):a=a'∧b=b'∧c=c':=by
 injection h with h
 injection h with h
 injection h with h1 h
 injection h with h2 h
 injection h with h3 h
 exact⟨h1,h2,h3⟩
theorem yk {a a':Option Addr} {n n' c c':Nat} (h:Value.slice a n c=.slice a' n' c'):a=a'∧c=c':=by
 injection h with h1 h2 h3
 exact⟨h1,h3⟩
def BoxP (w:World) (g:Nat) (x:Rat):Prop:=∃s a n c A N C,Bx w g 37 #[.bool s,.slice a n c,.slice A N C]∧PV w (.agg #[.bool s,.slice a n c,.slice A N C]) x
theorem RV.of_eq {w:World} {v:Value} {q q':Rat} (h:RV w v q) (e:q=q'):RV w v q':=e ▸ h
end Go.Proofs.YtidmjdmmpajooaaGreat
namespace Go.Proofs.YtidmjdmmpajooaaGreat
open Go Go.RowKit Dg
theorem je4 {W:World} {l:Nat} {r r':Loop} (hl:W.heap[l]?=some (.loop r)) {k:Nat} {t:TypeId} (h:TyB t W k):(W.putObj l (.loop r')).heap[k]?=W.heap[k]?:=by
 refine World.putObj_heap_other (fun e=>?_)
 subst e
 obtain⟨cs,fr,h⟩:=h
 rw[hl] at h
 cases h
theorem Bx.putL {W:World} {l:Nat} {r r':Loop} (hl:W.heap[l]?=some (.loop r)) {g:Nat} {t:TypeId} {cs:Array Value} (h:Bx W g t cs):Bx (W.putObj l (.loop r')) g t cs:=(je4 hl h.ty).trans h
theorem aw.putL {W:World} {l:Nat} {r r':Loop} (hl:W.heap[l]?=some (.loop r)):aw W (W.putObj l (.loop r')):=⟨by rw[World.putObj_size];exact ag _,fun _ _ hk _=>je4 hl hk⟩
theorem cw.putL {α:Type} {base:Nat} {size:Nat} {T:TypeId} {R:World→List Value→α→Prop} {W:World} {v:Value} {xs:List α} {l:Nat} {r r':Loop} (hR:ir R) (hl:W.heap[l]?=some (.loop r)) (h:cw base T size R W v xs):
  cw base T size R (W.putObj l (.loop r')) v xs:=by
 obtain⟨css,h1,h2,h3,h4⟩:=h
 exact⟨css,h1,h2,fun i cs x hc hx=>hR _ _ _ _ (h3 i cs x hc hx) (.putL hl),ownsRow_putObj h4 _ hl rfl⟩
theorem cw.putD {α:Type} {base:Nat} {size:Nat} {T:TypeId} {R:World→List Value→α→Prop} {W:World} {v:Value} {xs:List α} {D:Nat} {o o':Obj} (hR:ir R) (hD:W.heap[D]?=some o) (ho:o.isCells=false) (h:cw base T size R W v xs):
  cw base T size R (W.putObj D o') v xs:=by
 obtain⟨css,h1,h2,h3,h4⟩:=h
 refine⟨css,h1,h2,fun i cs x hc hx=>hR _ _ _ _ (h3 i cs x hc hx) ⟨by rw[World.putObj_size];exact ag _,fun k t hk _=>World.putObj_heap_other (fun e=>?_)⟩,ownsRow_putObj h4 _ hD ho⟩
 subst e
 obtain⟨cs,fr,hk⟩:=hk
 rw[hD] at hk
 cases hk
 cases ho
theorem Bx.putD {W:World} {D:Nat} {ds:Option (List Deferred)} {o':Obj} {g:Nat} {t:TypeId} {cs:Array Value} (h:Bx W g t cs) (hD:W.heap[D]?=some (.deferred ds)):Bx (W.putObj D o') g t cs:=(World.putObj_heap_other (fun e=>by
 subst e
 have h':W.heap[g]?=_:=h
 rw[hD] at h'
 cases h')).trans h
theorem BoxP.mono {w w':World} {g:Nat} {x:Rat} (h:BoxP w g x) (hb:Below w.heap.size w w'):BoxP w' g x:=by
 obtain⟨s,a,n,c,A,N,C,h1,h2⟩:=h
 exact⟨s,a,n,c,A,N,C,h1.mono hb,h2.mono hb⟩
theorem BoxP.putL {W:World} {l:Nat} {r r':Loop} (hl:W.heap[l]?=some (.loop r)) {g:Nat} {x:Rat} (h:BoxP W g x):BoxP (W.putObj l (.loop r')) g x:=by
 obtain⟨s,a,n,c,A,N,C,h1,h2⟩:=h
 exact⟨s,a,n,c,A,N,C,h1.putL hl,h2.keep (.putL hl)⟩
theorem uq {W W':World} {k:Nat} {o:Obj} (h:W.heap[k]?=some o) (hb:Below W.heap.size W W'):W'.heap[k]?=some o:=(hb.block k (Array.getElem?_eq_some_iff.1 h).1).trans h
end Go.Proofs.YtidmjdmmpajooaaGreat
namespace Go.Proofs.YtidmjdmmpajooaaGreat
open Go Go.RowKit Dg
theorem kb {f:FuncId} {args:Array Value} {w:World} {R:Ending→World→Prop} {l n:Nat} (h:Calls Tryz.prog f args w R):CallsIn (Fence.wide.inRound l) n Tryz.prog f args w R:=(callsIn_wide.2 h).inRound l
theorem CallsIn.absI {F:Fence} {n:Nat} {P:Program} {f:FuncId} {args:Array Value} {w:World} {R:Ending→World→Prop} (h:∀w',w'=w→CallsIn F n P f args w' R):CallsIn F n P f args w R:=h w rfl
theorem Code.absI {F:Fence} {n:Nat} {P:Program} {c:Code} {Q:Exit→Act→World→Prop} {a:Act} {w:World} (h:∀w',w'=w→c.wpIn F n P Q a w'):c.wpIn F n P Q a w:=h w rfl
theorem wpIn_room {P:Program} {c:Code} {Q:Exit→Act→World→Prop} {a:Act} {w:World} {l n m:Nat} (h:c.wpIn (Fence.wide.inRound l) n P Q a w):c.wpIn (Fence.wide.inRound l) m P Q a w:=fun b k cs hr hf _=>h b k cs hr hf (fun d hd=>by cases hd)
def endE (lp:Nat) (B0:LoopState→Option Code→Loop) (w0:World) (bx:Nat) (v:Value) (n1:Nat) (W:World) (I:Nat→World→Prop) (Ir:Code→World→Prop) (k:Nat) (e:Exit) (W3:World):Prop:=
 W3.heap[lp]?=some (.loop (B0 .busy none))∧Below w0.heap.size w0 W3∧Bx W3 bx 32 #[v]∧Kp n1 W W3∧
  match e with
  | .normal=>I (k + 1) W3
  | .ret=>Ir .ret W3
  | .exit id=>Ir (.exit id) W3
  | _=>False
structure jz (n:Nat) (I:World→Prop):Prop where
 b:∀W W',I W→Below W.heap.size W W'→I W'
 p:∀W l r r',n≤l→I W→W.heap[l]?=some (.loop r)→I (W.putObj l (.loop r'))
theorem jz.and {n:Nat} {I J:World→Prop} (h:jz n I) (k:jz n J):jz n (fun W=>I W∧J W):=
 ⟨fun W W' hI hb=>⟨h.b W W' hI.1 hb,k.b W W' hI.2 hb⟩,fun W l r r' hl hI hp=>⟨h.p W l r r' hl hI.1 hp,k.p W l r r' hl hI.2 hp⟩⟩
theorem jz.bx (n:Nat) {g:Nat} {t:TypeId} {cs:Array Value}:jz n (fun W=>Bx W g t cs):=⟨fun _ _ h hb=>h.mono hb,fun _ _ _ _ _ h hp=>h.putL hp⟩
theorem jz.below {n n0:Nat} {w:World} (h:n0≤n) (hw:n0≤w.heap.size) (_:n0=w.heap.size:=by rfl):jz n (fun W=>Below n0 w W):=by
 rename_i e;subst e
 exact⟨fun _ _ h hb=>ar h hb,fun W l r r' hl h2 hp=>h2.trans (belowK_b (ag _) W l _ _ (by omega) hp rfl rfl)⟩
theorem jz.prop (n:Nat) (p:Prop):jz n (fun _=>p):=⟨fun _ _ h _=>h,fun _ _ _ _ _ h _=>h⟩
theorem jz.blk {n g:Nat} {o:Obj} (h:g < n):jz n (fun W=>W.heap[g]?=some o):=⟨fun _ _ h hb=>uq h hb,fun W l r r' hl h2 hp=>(World.putObj_heap_other (by omega)).trans h2⟩
theorem jz.atB {n b:Nat} {o:Obj} (h:b < n):jz n (fun W=>AtB b o W):=⟨fun _ _ h hb=>Go.Proofs.YtidmjdmmpajooaaGreat.atB _ _ _ h hb,fun W l r r' hl h2 hp=>⟨(World.putObj_heap_other (by omega)).trans h2.h⟩⟩
theorem jz.kp {n m:Nat} {A:World} (h:A.heap.size≤n):jz n (fun W=>Kp m A W):=⟨fun W W' h hb=>h.below hb,fun W l r r' hl h2 hp=>h2.putL (.inr (by omega)) _⟩
section
variable {ps:Array Tmp} {assign body:Code} {Q:Exit→Act→World→Prop} {a:Act} {w:World} {g:Operand}
theorem edgesR (bx:Nat) (v:Value) (l:List Pt) (w0:World) (I:Nat→World→Prop) (Ir:Code→World→Prop)
  (hg:a.eval g=.func (.func 65) #[] #[.pointer (some ⟨bx,0,none⟩)]) (hps:ps.size=2)
  (hl:Pts w0 v l) (h2:l.length≤1000000000) (hb0:Below w0.heap.size w0 w) (Blx:Bx w bx 32 #[v])
  (hI:∀k,jz w.heap.size (I k)) (hIr:∀c,jz w.heap.size (Ir c)) (h0:I 0 w)
  (hbody:∀(B0:LoopState→Option Code→Loop) (lp k:Nat) (W:World) (R:Ending→World→Prop),w.heap.size < lp→lp < w.heap.size + 2→k < l.length→w.heap.size + 2≤W.heap.size→W.heap[lp]?=some (.loop (B0 .ready none))→
   Below w0.heap.size w0 W→Bx W bx 32 #[v]→I k W→W.heap[w.heap.size]?=some (.deferred (some []))→
   (∀e a W3,endE lp B0 w0 bx v (w.heap.size + 2) W I Ir k e W3→W3.heap[w.heap.size]?=some (.deferred (some []))→endJ lp B0 R e a W3)→
   assign.wpIn (Fence.wide.inRound lp) 0 Tryz.prog (Exit.then (fun a₁ w₁=>w₁.heap[lp]?=some (.loop (B0 .ready none))∧
     body.wpIn (Fence.wide.inRound lp) 0 Tryz.prog (endJ lp B0 R) a₁ (w₁.putObj lp (.loop (B0 .busy none)))) (fun _ _ _=>False))
     {tmps:=(ps.zip #[.int .i64 k,egV (ptZ l k) (nxZ l k)]).foldl (fun t (p,v)=>t.setIfInBounds p v) a.tmps,defers:=[]} W)
  (hend:∀(D:Nat) (W:World),D=w.heap.size→w.heap.size + 2≤W.heap.size→W.heap[D]?=some (.deferred (some []))→Below w0.heap.size w0 W→I l.length W→Q .normal {a with defers:={target:=.collected D,args:=#[]} ::a.defers} W)
  (hret:∀(c:Code) (D:Nat) (W:World),D=w.heap.size→w.heap.size + 2≤W.heap.size→W.heap[D]?=some (.deferred (some []))→Below w0.heap.size w0 W→Ir c W→c.wp Tryz.prog Q {a with defers:={target:=.collected D,args:=#[]} ::a.defers} W):
  (Code.rangeFunc g ps assign body).wp Tryz.prog Q a w:=by
 refine (wpIn_wide (n:=2)).1 (rangeJointR rfl (by omega) (gf:=65) (lb:=#[.pointer (some ⟨bx,0,none⟩)]) hg trivial (enters_of Tryz.func65 (by kernel_rfl) rfl) ?_)
 intro B0 lp D W1 hlp hD B3 hyl
 have lx:=Blx.lt
 have hn:=hb0.size
 have n1:W1.heap.size=w.heap.size + 2:=by rw[B3];simp
 have hb:Below w.heap.size w W1:=by rw[B3];exact ((Below.refl _ _).alloc (ag _) _).alloc (by simp) _
 have e1:W1.heap[lp]?=some (.loop (B0 .ready none)):=by rw[B3,hlp];have:=World.alloc_heap_new (w.alloc (.deferred (some []))) (.loop (B0 .ready none));rwa [World.size_alloc] at this
 have e2:W1.heap[D]?=some (.deferred (some [])):=by rw[B3,hD];exact (Below.heap_alloc _ _ _ (by simp)).trans (World.alloc_heap_new w _)
 have SB:jz w.heap.size (fun W=>Below w0.heap.size w0 W):=.below hn (ag _)
 have SX:jz w.heap.size (fun W=>Bx W bx 32 #[v]):=.bx _
 obtain⟨JE,B1⟩:∃JE:Nat→World→Prop,JE=fun k W=>w.heap.size + 2≤W.heap.size∧W.heap[lp]?=some (.loop (B0 .ready none))∧W.heap[D]?=some (.deferred (some []))∧Below w0.heap.size w0 W∧Bx W bx 32 #[v]∧I k W:=⟨_,rfl⟩
 obtain⟨JX,B2⟩:∃JX:World→Prop,JX=fun W=>∃c,w.heap.size + 2≤W.heap.size∧W.heap[lp]?=some (.loop (B0 .done (some c)))∧W.heap[D]?=some (.deferred (some []))∧Below w0.heap.size w0 W∧Bx W bx 32 #[v]∧Ir c W:=⟨_,rfl⟩
 refine callsIn_wide.2 ?_
 refine (edg_in lp bx v l JE JX w0 W1 hl h2 (by omega) (fun k W h=>?_) (fun W h=>?_) (fun k W W' h hb=>?_) (fun W W' h hb=>?_) ?hy ?h0).mono ?done
 ·subst B1;exact⟨h.2.2.2.1,h.2.2.2.2.1.at 0 rfl⟩
 ·subst B2;obtain⟨c,h⟩:=h;exact⟨h.2.2.2.1,h.2.2.2.2.1.at 0 rfl⟩
 ·subst B1;obtain⟨h1,h2,h3,h4,h5,h6⟩:=h;exact⟨Nat.le_trans h1 hb.size,uq h2 hb,uq h3 hb,ar h4 hb,h5.mono hb,(hI k).b _ _ h6 hb⟩
 ·subst B2;obtain⟨c,h1,h2,h3,h4,h5,h6⟩:=h;exact⟨c,Nat.le_trans h1 hb.size,uq h2 hb,uq h3 hb,ar h4 hb,h5.mono hb,(hIr c).b _ _ h6 hb⟩
 case h0=>subst B1;exact⟨by omega,e1,e2,ar hb0 hb,Blx.mono hb,(hI 0).b _ _ h0 hb⟩
 case hy=>
  intro k W hk hJ hnn
  have hJ':w.heap.size + 2≤W.heap.size∧W.heap[lp]?=some (.loop (B0 .ready none))∧W.heap[D]?=some (.deferred (some []))∧Below w0.heap.size w0 W∧Bx W bx 32 #[v]∧I k W:=by rw[B1] at hJ;exact hJ
  obtain⟨j1,j2,j3,j4,j5,j6⟩:=hJ'
  refine hyl #[_,_] W _ hps.symm j2 ?_
  refine hbody B0 lp k W _ (by omega) (by omega) hk j1 j2 j4 j5 j6 (by rw[←hD];exact j3) ?_
  rintro e a3 W3 ⟨q1,q2,q3,q4,q5⟩ q6
  have z3:w.heap.size + 2≤W3.heap.size:=Nat.le_trans j1 q4.1
  have hK:∀o,Kp W1.heap.size W (W3.putObj lp o):=fun o=>by rw[n1];exact q4.putL (.inl (by omega)) o
  have B5:∀o,(W3.putObj lp o).heap.size=W3.heap.size:=fun o=>World.putObj_size
  have hD3:∀o,(W3.putObj lp o).heap[D]?=some (.deferred (some [])):=fun o=>(World.putObj_heap_other (by omega)).trans (by rw[hD];exact q6)
  have B4:∀o,(W3.putObj lp o).heap[lp]?=some o:=fun o=>World.putObj_heap_same (by omega)
  cases e with
  | normal=>exact⟨q1,hK _,.inl ⟨rfl,by subst B1;exact⟨by rw[B5];exact z3,B4 _,hD3 _,SB.p _ _ _ _ (by omega) q2 q1,SX.p _ _ _ _ (by omega) q3 q1,(hI _).p _ _ _ _ (by omega) q5 q1⟩⟩⟩
  | ret=>exact⟨q1,hK _,.inr ⟨rfl,by subst B2;exact⟨.ret,by rw[B5];exact z3,B4 _,hD3 _,SB.p _ _ _ _ (by omega) q2 q1,SX.p _ _ _ _ (by omega) q3 q1,(hIr _).p _ _ _ _ (by omega) q5 q1⟩⟩⟩
  | exit id=>exact⟨q1,hK _,.inr ⟨rfl,by subst B2;exact⟨.exit id,by rw[B5];exact z3,B4 _,hD3 _,SB.p _ _ _ _ (by omega) q2 q1,SX.p _ _ _ _ (by omega) q3 q1,(hIr _).p _ _ _ _ (by omega) q5 q1⟩⟩⟩
  | goto t=>exact q5.elim
  | panic ch=>exact q5.elim
  | outgrown=>exact q5.elim
 case done=>
  rintro e W5 ⟨⟨x,rfl⟩,hJ|hJ⟩
  ·subst B1
   obtain⟨j1,j2,j3,j4,j5,j6⟩:=hJ
   exact⟨⟨_,rfl⟩,.inl ⟨j2,hend D _ hD (by rw[World.putObj_size];exact j1) ((World.putObj_heap_other (by omega)).trans j3) (SB.p _ _ _ _ (by omega) j4 j2) ((hI _).p _ _ _ _ (by omega) j6 j2)⟩⟩
  ·subst B2
   obtain⟨c,j1,j2,j3,j4,j5,j6⟩:=hJ
   exact⟨⟨_,rfl⟩,.inr ⟨c,j2,wpIn_wide.2 (hret c D _ hD (by rw[World.putObj_size];exact j1) ((World.putObj_heap_other (by omega)).trans j3) (SB.p _ _ _ _ (by omega) j4 j2) ((hIr _).p _ _ _ _ (by omega) j6 j2))⟩⟩
theorem edgesN (bx:Nat) (v:Value) (l:List Pt) (w0:World) (I:Nat→World→Prop) (Ir:Code→World→Prop) {l₀:Nat} {r₀:Loop}
  (hl₀:w.heap[l₀]?=some (.loop r₀))
  (hg:a.eval g=.func (.func 65) #[] #[.pointer (some ⟨bx,0,none⟩)]) (hps:ps.size=2)
  (hl:Pts w0 v l) (h2:l.length≤1000000000) (hb0:Below w0.heap.size w0 w) (Blx:Bx w bx 32 #[v])
  (hI:∀k,jz w.heap.size (I k)) (hIr:∀c,jz w.heap.size (Ir c)) (h0:I 0 w)
  (hbody:∀(B0:LoopState→Option Code→Loop) (lp k:Nat) (W:World) (R:Ending→World→Prop),w.heap.size≤lp→lp < w.heap.size + 1→k < l.length→w.heap.size + 1≤W.heap.size→W.heap[lp]?=some (.loop (B0 .ready none))→
   Below w0.heap.size w0 W→Bx W bx 32 #[v]→I k W→
   (∀e a W3,endE lp B0 w0 bx v (w.heap.size + 1) W I Ir k e W3→endJ lp B0 R e a W3)→
   assign.wpIn (Fence.wide.inRound lp) 0 Tryz.prog (Exit.then (fun a₁ w₁=>w₁.heap[lp]?=some (.loop (B0 .ready none))∧
     body.wpIn (Fence.wide.inRound lp) 0 Tryz.prog (endJ lp B0 R) a₁ (w₁.putObj lp (.loop (B0 .busy none)))) (fun _ _ _=>False))
     {tmps:=(ps.zip #[.int .i64 k,egV (ptZ l k) (nxZ l k)]).foldl (fun t (p,v)=>t.setIfInBounds p v) a.tmps,defers:=[]} W)
  (hend:∀(W:World),w.heap.size + 1≤W.heap.size→Below w0.heap.size w0 W→I l.length W→Q .normal a W)
  (hret:∀(c:Code) (W:World),w.heap.size + 1≤W.heap.size→Below w0.heap.size w0 W→Ir c W→c.wpIn (Fence.wide.inRound l₀) 0 Tryz.prog Q a W):
  (Code.rangeFunc g ps assign body).wpIn (Fence.wide.inRound l₀) 0 Tryz.prog Q a w:=by
 refine wpIn_room (n:=2) ?_
 refine rangeJointN rfl hl₀ (by omega) (gf:=65) (lb:=#[.pointer (some ⟨bx,0,none⟩)]) hg trivial (enters_of Tryz.func65 (by kernel_rfl) rfl) ?_
 intro B0 lp W1 hlp B3 hyl
 have lx:=Blx.lt
 have hn:=hb0.size
 have n1:W1.heap.size=w.heap.size + 1:=by rw[B3];simp
 have hb:Below w.heap.size w W1:=by rw[B3];exact (Below.refl _ _).alloc (ag _) _
 have e1:W1.heap[lp]?=some (.loop (B0 .ready none)):=by rw[B3,hlp];exact World.alloc_heap_new w (.loop (B0 .ready none))
 have SB:jz w.heap.size (fun W=>Below w0.heap.size w0 W):=.below hn (ag _)
 have SX:jz w.heap.size (fun W=>Bx W bx 32 #[v]):=.bx _
 obtain⟨JE,B1⟩:∃JE:Nat→World→Prop,JE=fun k W=>w.heap.size + 1≤W.heap.size∧W.heap[lp]?=some (.loop (B0 .ready none))∧Below w0.heap.size w0 W∧Bx W bx 32 #[v]∧I k W:=⟨_,rfl⟩
 obtain⟨JX,B2⟩:∃JX:World→Prop,JX=fun W=>∃c,w.heap.size + 1≤W.heap.size∧W.heap[lp]?=some (.loop (B0 .done (some c)))∧Below w0.heap.size w0 W∧Bx W bx 32 #[v]∧Ir c W:=⟨_,rfl⟩
 refine kb ?_
 refine (edg_in lp bx v l JE JX w0 W1 hl h2 (by omega) (fun k W h=>?_) (fun W h=>?_) (fun k W W' h hb=>?_) (fun W W' h hb=>?_) ?hy ?h0).mono ?done
 ·subst B1;exact⟨h.2.2.1,h.2.2.2.1.at 0 rfl⟩
 ·subst B2;obtain⟨c,h⟩:=h;exact⟨h.2.2.1,h.2.2.2.1.at 0 rfl⟩
 ·subst B1;obtain⟨h1,h2,h4,h5,h6⟩:=h;exact⟨Nat.le_trans h1 hb.size,uq h2 hb,ar h4 hb,h5.mono hb,(hI k).b _ _ h6 hb⟩
 ·subst B2;obtain⟨c,h1,h2,h4,h5,h6⟩:=h;exact⟨c,Nat.le_trans h1 hb.size,uq h2 hb,ar h4 hb,h5.mono hb,(hIr c).b _ _ h6 hb⟩
 case h0=>subst B1;exact⟨by omega,e1,ar hb0 hb,Blx.mono hb,(hI 0).b _ _ h0 hb⟩
 case hy=>
  intro k W hk hJ hnn
  have hJ':w.heap.size + 1≤W.heap.size∧W.heap[lp]?=some (.loop (B0 .ready none))∧Below w0.heap.size w0 W∧Bx W bx 32 #[v]∧I k W:=by rw[B1] at hJ;exact hJ
  obtain⟨j1,j2,j4,j5,j6⟩:=hJ'
  refine hyl #[_,_] W _ hps.symm j2 ?_
  refine hbody B0 lp k W _ (by omega) (by omega) hk j1 j2 j4 j5 j6 ?_
  rintro e a3 W3 ⟨q1,q2,q3,q4,q5⟩
  have z3:w.heap.size + 1≤W3.heap.size:=Nat.le_trans j1 q4.1
  have hK:∀o,Kp W1.heap.size W (W3.putObj lp o):=fun o=>by rw[n1];exact q4.putL (.inl (by omega)) o
  have B5:∀o,(W3.putObj lp o).heap.size=W3.heap.size:=fun o=>World.putObj_size
  have B4:∀o,(W3.putObj lp o).heap[lp]?=some o:=fun o=>World.putObj_heap_same (by omega)
  cases e with
  | normal=>exact⟨q1,hK _,.inl ⟨rfl,by subst B1;exact⟨by rw[B5];exact z3,B4 _,SB.p _ _ _ _ (by omega) q2 q1,SX.p _ _ _ _ (by omega) q3 q1,(hI _).p _ _ _ _ (by omega) q5 q1⟩⟩⟩
  | ret=>exact⟨q1,hK _,.inr ⟨rfl,by subst B2;exact⟨.ret,by rw[B5];exact z3,B4 _,SB.p _ _ _ _ (by omega) q2 q1,SX.p _ _ _ _ (by omega) q3 q1,(hIr _).p _ _ _ _ (by omega) q5 q1⟩⟩⟩
  | exit id=>exact⟨q1,hK _,.inr ⟨rfl,by subst B2;exact⟨.exit id,by rw[B5];exact z3,B4 _,SB.p _ _ _ _ (by omega) q2 q1,SX.p _ _ _ _ (by omega) q3 q1,(hIr _).p _ _ _ _ (by omega) q5 q1⟩⟩⟩
  | goto t=>exact q5.elim
  | panic ch=>exact q5.elim
  | outgrown=>exact q5.elim
 case done=>
  rintro e W5 ⟨⟨x,rfl⟩,hJ|hJ⟩
  ·subst B1
   obtain⟨j1,j2,j4,j5,j6⟩:=hJ
   exact⟨⟨_,rfl⟩,.inl ⟨j2,hend _ (by rw[World.putObj_size];exact j1) (SB.p _ _ _ _ (by omega) j4 j2) ((hI _).p _ _ _ _ (by omega) j6 j2)⟩⟩
  ·subst B2
   obtain⟨c,j1,j2,j4,j5,j6⟩:=hJ
   exact⟨⟨_,rfl⟩,.inr ⟨c,j2,wpIn_room (hret c _ (by rw[World.putObj_size];exact j1) (SB.p _ _ _ _ (by omega) j4 j2) ((hIr _).p _ _ _ _ (by omega) j6 j2))⟩⟩
end
end Go.Proofs.YtidmjdmmpajooaaGreat
namespace Go.Proofs.YtidmjdmmpajooaaGreat
open Go.RowKit Dg
structure Stopped (p:Prop):Prop where
 out:p
theorem wpList.stop {P:Program} {ops:Array Oper} {Q:Exit→Act→World→Prop} {l:List Oper} {a:Act} {w:World} (h:Stopped (wpList P ops Q l a w)):wpList P ops Q l a w:=h.out
end Go.Proofs.YtidmjdmmpajooaaGreat
namespace Go.Proofs.YtidmjdmmpajooaaGreat
open Go Go.RowKit Dg
theorem wpListIn.stop {F:Fence} {n:Nat} {P:Program} {ops:Array Oper} {Q:Exit→Act→World→Prop} {l:List Oper} {a:Act} {w:World} (h:Stopped (wpListIn F n P ops Q l a w)):wpListIn F n P ops Q l a w:=h.out
theorem wpListIn.absI {F:Fence} {n:Nat} {P:Program} {ops:Array Oper} {Q:Exit→Act→World→Prop} {l:List Oper} {a:Act} {w:World} (h:∀w',w'=w→wpListIn F n P ops Q l a w'):wpListIn F n P ops Q l a w:=h w rfl
theorem tv {F:Fence} {N:Nat} {P:Program} (w:World) {ops:Array Oper} {rest:List Oper} {o:Oper} {a:Act} {Q:Exit→Act→World→Prop} (hgd:o.guard=none) (s x:Operand) (t:TypeId)
  (ho:o.op=.call {callee:=.builtin .append,args:=#[s,x],argTypes:=#[t,t]})
  (base:Nat) (e:TypeId) (i:TypeInfo) (z:Value) (size bytes:Nat) (ht:P.underlying t=some (.slice e)) (hi:P.info? e=some i) (hz:i.zero=some z)
  (hsize:i.size=size) (hby:i.bytes=bytes) (hzs:z.cells.size=size) (hsz:0 < size)
  (v:Value) (n:Nat) (xs:List Value) (hs:a.eval s=v) (hown:w.ownsRow base e size v n xs)
  (ad:Addr) (m c:Nat) (news:List Value) (hx:a.eval x=.slice (some ad) m c) (hl:news.length=m * size) (hnews:∀j u,news[j]?=some u→w.cell? (ad.add j)=some u) (h1:∀u∈news,u.oneCell'=true)
  (hm:0 < m) (h63:n + m≤maxLen) (hbytes:(n + m) * bytes≤140737488355328) (hbase:base≤w.heap.size) (H:Nat) (hH:w.heap.size=H)
  (h:∀g B0 w',w'.ownsRow base e size (.slice (some ⟨g,0,none⟩) (n + m) B0) (n + m) (xs ++ news)→w.grownBy w' v.ownBlock→(v.ownBlock=some g∨g=H)→g < w'.heap.size→wpListIn F N P ops Q rest (a.put o.dst (.slice (some ⟨g,0,none⟩) (n + m) B0)) w'):wpListIn F N P ops Q (o ::rest) a w:=by
 refine wpListIn_plain hgd fun K hK'=>?_
 obtain⟨g,B0,w',hr,h2,h3,h4,h5⟩:=run_append_lies (P:=P) w t o.type base e i z size bytes ht hi hz hsize hby hzs hsz v n xs hown ad m c news hl hnews h1 hm h63 hbytes hbase H hH
 unfold Oper.wpIn
 refine⟨?_,?_⟩
 ·simp[Oper.about,ho,resolve,Target.leads,Sem.run_pure]
 ·rw[Oper.semAt_plain F _ _ (by rw[ho];intro c hc';cases hc')]
  simp[execOp,ho,resolve,invoke,builtin,hs,hx,hr,Result.andThen]
  exact hK' _ _ (h g B0 w' h2 h3 h4 h5)
end Go.Proofs.YtidmjdmmpajooaaGreat
