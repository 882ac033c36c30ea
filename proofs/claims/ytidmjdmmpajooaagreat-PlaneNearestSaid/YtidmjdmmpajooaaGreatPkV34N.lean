/-
  The union's sums: what is gathered in a slab, how long, how large: plain.
-/
import Derived.Test.YtidmjdmmpajooaaGreatPlIN
import Derived.Test.YtidmjdmmpajooaaGreatPlHN
import Derived.Test.YtidmjdmmpajooaaGreatPkV14N
import Derived.Deep.AppendLies
set_option linter.unusedSimpArgs false
set_option linter.unusedVariables false
namespace Go.Proofs.YtidmjdmmpajooaaGreat
def hrK (P:List (List Edg)) (x:Rat) (i:Nat):List (Rat × Rat):=(P.take i).flatMap fun p=>spQ p x
theorem hrK_succ {P:List (List Edg)} {x:Rat} {i:Nat} (h:i < P.length):hrK P x (i + 1)=hrK P x i ++ spQ (lsZ P i) x:=by
 unfold hrK
 rw[List.take_add_one,qy h,List.flatMap_append]
 simp
theorem hrK_all (P:List (List Edg)) (x:Rat):hrK P x P.length=P.flatMap fun p=>spQ p x:=by unfold hrK;rw[List.take_length]
theorem prQ_len:∀l:List Rat,(prQ l).length≤l.length
 | []=>ag _
 | [_]=>Nat.zero_le _
 | _ ::_ ::r=>by
  have:=prQ_len r
  show (prQ r).length + 1≤r.length + 1 + 1
  omega
theorem spQ_len (E:List Edg) (x:Rat):(spQ E x).length≤E.length:=by
 unfold spQ
 have h1:=prQ_len (ym (ysQ E x))
 have h2:=xj (ysQ E x)
 have h3:=ys_len E x
 omega
theorem jd0 (x:Rat):∀P:List (List Edg),(P.flatMap fun p=>spQ p x).length≤jt P
 | []=>ag _
 | p ::r=>by
  rw[List.flatMap_cons,List.length_append,li]
  have:=spQ_len p x
  have:=jd0 x r
  omega
theorem yu:∀(P:List (List Edg)) (i:Nat),jt (P.take i)≤jt P
 | [],i=>by rw[List.take_nil];exact ag _
 | p ::r,0=>Nat.zero_le _
 | p ::r,i + 1=>by
  rw[List.take_succ_cons,li,li]
  have:=yu r i
  omega
theorem ja5 (P:List (List Edg)) (x:Rat) (i:Nat):(hrK P x i).length≤jt P:=Nat.le_trans (jd0 x _) (yu P i)
theorem totE_nth {P:List (List Edg)} {i:Nat} (h:i < P.length):(lsZ P i).length≤jt P:=by
 have:=yu P (i + 1)
 rw[List.take_add_one,qy h] at this
 unfold jt at this ⊢
 rw[List.map_append,List.sum_append] at this
 simp at this
 omega
theorem prQ_mem {Q:Rat→Prop}:∀{l:List Rat},(∀y∈l,Q y)→∀s∈prQ l,Q s.1∧Q s.2
 | [],_,s,hs=>by cases hs
 | [_],_,s,hs=>by cases hs
 | a ::b ::r,h,s,hs=>by
  rcases List.mem_cons.1 hs with rfl|hs
  ·exact⟨h a (by simp),h b (by simp)⟩
  ·exact prQ_mem (l:=r) (fun y hy=>h y (by simp[hy])) s hs
theorem spQ_sz {E:List Edg} {x:Rat} {K:Nat} (hE:∀e∈E,my e) (sx:SzQ K x):∀s∈spQ E x,SzQ (K + 8) s.1∧SzQ (K + 8) s.2:=prQ_mem (srt_mem (ys_sz hE sx))
theorem hr_sz {P:List (List Edg)} {x:Rat} {K:Nat} (hE:∀p∈P,∀e∈p,my e) (sx:SzQ K x) (i:Nat):∀s∈hrK P x i,SzQ (K + 8) s.1∧SzQ (K + 8) s.2:=fun s hs=>by
 obtain⟨p,hp,hs⟩:=List.mem_flatMap.1 hs
 exact spQ_sz (hE p (List.mem_of_mem_take hp)) sx s hs
theorem nthS_mem {L:List (Rat × Rat)} {Q:Rat × Rat→Prop} (h:∀s∈L,Q s) {i:Nat} (hi:i < L.length):Q (mr L i):=h _ (List.mem_of_getElem? (nt hi))
theorem lnQ_sz {L:List (Rat × Rat)} {K N:Nat} (h:∀s∈L,SzQ K s.1∧SzQ K s.2) (hn:L.length≤N):SzQ (N * (2 * K + 3) + 1) (lnQ (xi L)):=by
 have hl:(xi L).length=L.length:=(yr L).length_eq
 have h1:∀i,i < (xi L).length→SzQ K (mr (xi L) i).1∧SzQ K (mr (xi L) i).2:=fun i hi=>nthS_mem (Q:=fun s=>SzQ K s.1∧SzQ K s.2) (fun s hs=>h s ((yr L).mem_iff.1 hs)) hi
 have h2:=(lnS_sz h1 (xi L).length (ag _)).1
 rw[lnS_all] at h2
 exact h2.mono (by have:(xi L).length * (2 * K + 3)≤N * (2 * K + 3):=Nat.mul_le_mul_right _ (by omega);omega)
theorem cp_ne:∀{l:List Rat},0 < l.length→0 < (cpQ l).length
 | [_],_=>Nat.zero_lt_one
 | a ::b ::r,_=>by
  have:=cp_ne (l:=b ::r) (Nat.succ_pos _)
  show 0 < (if a=b then cpQ (b ::r) else a ::cpQ (b ::r)).length
  split
  ·exact this
  ·exact Nat.succ_pos _
theorem slb_ne {P:List (List Edg)} (h1:0 < P.length) (h2:∀p∈P,0 < p.length):0 < (qr P).length:=by
 match P,h1 with
 | p ::r,_=>
  have hp:=h2 p (by simp)
  match p,hp with
  | e ::es,_=>
   show 0 < ((e ::es).flatMap (fun e=>seL e r) ++ qr r).length
   rw[List.flatMap_cons]
   show 0 < ((((e.1.1:Rat) ::_) ++ _) ++ _).length
   simp
theorem xs_ne {P:List (List Edg)} (h1:0 < P.length) (h2:∀p∈P,0 < p.length):0 < (xsQ P).length:=cp_ne (by rw[xj];exact slb_ne h1 h2)
theorem xs_len {P:List (List Edg)} (hT:jt P≤24):(xsQ P).length≤624:=by
 have h1:=cp_len (ym (qr P))
 have h2:=xj (qr P)
 have h3:=sb1_le P hT P.length
 rw[xc] at h3
 unfold xsQ
 omega
theorem cp_mem {Q:Rat→Prop}:∀{l:List Rat},(∀y∈l,Q y)→∀y∈cpQ l,Q y
 | [],_,y,hy=>by cases hy
 | [a],h,y,hy=>h y hy
 | a ::b ::r,h,y,hy=>by
  have ih:=cp_mem (l:=b ::r) (fun y hy=>h y (List.mem_cons_of_mem _ hy))
  have hy:y∈(if a=b then cpQ (b ::r) else a ::cpQ (b ::r)):=hy
  split at hy
  ·exact ih y hy
  ·rcases List.mem_cons.1 hy with rfl|hy
   ·exact h y (by simp)
   ·exact ih y hy
theorem xs_sz {P:List (List Edg)} (hE:∀p∈P,∀e∈p,my e):∀y∈xsQ P,SzQ 7 y:=cp_mem (srt_mem (slb_szs hE))
theorem ja4:SzQ 4 ((1 / 2:Rat)):=by rw[show (1 / 2:Rat)=((1:Int):Rat) / ((2:Int):Rat) from rfl];exact (szD (show Wn 9223372036854775807 1 from ⟨by decide,by decide⟩) (show Wn 9223372036854775807 2 from ⟨by decide,by decide⟩) (by decide)).mono (by decide)
theorem mid_sz {a b:Rat} (ha:SzQ 7 a) (hb:SzQ 7 b):SzQ 24 ((a + b) * (1 / 2)):=(SzQ.mul (SzQ.add ha hb) ja4).mono (by decide)
theorem slab_sz {P:List (List Edg)} {a b:Rat} (hE:∀p∈P,∀e∈p,my e) (hT:jt P≤24) (ha:SzQ 7 a) (hb:SzQ 7 b):SzQ 2000 (rr P a b):=by
 unfold rr
 exact (SzQ.mul (SzQ.sub hb ha) (lnQ_sz (N:=24) (by rw[←hrK_all];exact hr_sz hE (mid_sz ha hb) _) (Nat.le_trans (jd0 _ P) hT))).mono (by decide)
theorem sumK_sz {P:List (List Edg)} {X:List Rat} (hE:∀p∈P,∀e∈p,my e) (hT:jt P≤24) (hX:∀y∈X,SzQ 7 y):∀k,k + 1≤X.length→SzQ (k * 2001 + 1) (uv P X k)
 | 0,_=>jn.mono (by omega)
 | k + 1,hk=>by
  have ih:=sumK_sz hE hT hX k (by omega)
  have h1:=slab_sz hE hT (fw hX (show k < X.length by omega)) (fw hX (show k + 1 < X.length by omega))
  exact (SzQ.add ih h1).mono (by omega)
theorem slT_succ {l:List (List Pt)} {k:Nat} (h:k < l.length):(l.take (k + 1)).map slE=(l.take k).map slE ++ [slE (l.getD k [])]:=by
 rw[List.take_add_one,List.map_append]
 rw[show l[k]?=some (l.getD k []) from by rw[List.getD_eq_getElem?_getD,List.getElem?_eq_getElem h];rfl]
 rfl
end Go.Proofs.YtidmjdmmpajooaaGreat
namespace Go.Proofs.YtidmjdmmpajooaaGreat
open Go Go.RowKit Dg
theorem rows_flatG {α:Type} {size:Nat} {T:TypeId} {R:World→List Value→α→Prop} (hz:0 < size) (hone:∀(w:World) (cs:List Value) (x:α),R w cs x→∀u∈cs,u.oneCell'=true) {w:World} {b o n c:Nat} {l:List α} (h:Rows size T R w (.slice (some ⟨b,o,none⟩) n c) l):
  ∃css:List (List Value),css.length=l.length∧(∀cs∈css,cs.length=size)∧(∀(i:Nat) (cs:List Value) (x:α),css[i]?=some cs→l[i]?=some x→R w cs x)∧
  (∀u∈css.flatten,u.oneCell'=true)∧∀j u,css.flatten[j]?=some u→w.cell? ((⟨b,o,none⟩:Addr).add j)=some u:=by
 have hall:∀i,i < l.length→∃cs:List Value,cs.length=size∧jp w b (o + i * size) cs∧∀x,l[i]?=some x→R w cs x:=fun i hi=>by
  obtain⟨b',o',c',cs,hv,hl,hat,hc⟩:=h.get (List.getElem?_eq_getElem hi)
  obtain⟨e,rfl⟩:=yk hv
  injection e with e
  injection e with e1 e2
  subst e1 e2
  exact⟨cs,hl,hat,fun x hx=>by rw[List.getElem?_eq_getElem hi] at hx;cases hx;exact hc⟩
 obtain⟨f,hf⟩:=choose_lt' hall
 have hg:∀(i:Nat) (cs:List Value),((List.range l.length).map f)[i]?=some cs→i < l.length∧cs=f i:=fun i cs hc=>by
  rw[List.getElem?_map] at hc
  by_cases hi:i < l.length
  ·rw[List.getElem?_range hi] at hc
   simp only[Option.map_some,Option.some.injEq] at hc
   exact⟨hi,hc.symm⟩
  ·rw[List.getElem?_eq_none (by simpa using hi)] at hc
   cases hc
 have h3:∀cs∈(List.range l.length).map f,cs.length=size:=fun cs hcs=>by
  obtain⟨i,hi,rfl⟩:=List.mem_map.1 hcs
  exact (hf i (List.mem_range.1 hi)).1
 refine⟨(List.range l.length).map f,by simp,h3,fun i cs x hc hx=>?_,fun u hu=>?_,fun j u hu=>?_⟩
 ·obtain⟨hi,rfl⟩:=hg i cs hc
  exact (hf i hi).2.2 x hx
 ·obtain⟨cs,hcs,hu⟩:=List.mem_flatten.1 hu
  obtain⟨i,hi,rfl⟩:=List.mem_map.1 hcs
  have hi:=List.mem_range.1 hi
  exact hone _ _ _ ((hf i hi).2.2 _ (List.getElem?_eq_getElem hi)) u hu
 ·have hj:j < l.length * size:=by
   have h1:=(List.getElem?_eq_some_iff.1 hu).1
   rw[dz _ h3] at h1
   simpa using h1
  have hm:=Nat.mod_lt j hz
  have hd:=Nat.div_add_mod j size
  rw[Nat.mul_comm] at hd
  have hi:j / size < l.length:=Nat.div_lt_of_lt_mul (by rw[Nat.mul_comm];exact hj)
  have e:=js _ h3 (j / size) (j % size) (f (j / size)) (by rw[List.getElem?_map,List.getElem?_range hi];rfl) hm
  rw[hd,hu] at e
  have:=(hf (j / size) hi).2.1 (j % size) u e.symm
  rw[iy]
  rw[Nat.add_assoc,hd] at this
  exact this
theorem cw.pushG {α:Type} {base size:Nat} {T:TypeId} {R:World→List Value→α→Prop} (hR:ir R) {w w':World} {l m:List α} {css dss:List (List Value)} (h1:css.length=l.length) (h2:∀cs∈css,cs.length=size) (h3:∀(i:Nat) (cs:List Value) (x:α),css[i]?=some cs→l[i]?=some x→R w cs x)
  (d1:dss.length=m.length) (d2:∀cs∈dss,cs.length=size) (d3:∀(i:Nat) (cs:List Value) (x:α),dss[i]?=some cs→m[i]?=some x→R w cs x) {v':Value}
  (hown:w'.ownsRow base T size v' (l.length + m.length) (css.flatten ++ dss.flatten)) (hk:aw w w'):cw base T size R w' v' (l ++ m):=by
 refine⟨css ++ dss,by simp[h1,d1],?_,?_,?_⟩
 ·intro c hc
  rcases List.mem_append.1 hc with h|h
  ·exact h2 c h
  ·exact d2 c h
 ·intro i c y hc hy
  by_cases hi:i < l.length
  ·rw[List.getElem?_append_left (by omega)] at hc
   rw[List.getElem?_append_left hi] at hy
   exact hR _ _ _ _ (h3 i c y hc hy) hk
  ·rw[List.getElem?_append_right (by omega),h1] at hc
   rw[List.getElem?_append_right (by omega)] at hy
   exact hR _ _ _ _ (d3 _ c y hc hy) hk
 ·rw[List.length_append,List.flatten_append];exact hown
theorem zx {α:Type} {P:Program} {base size bytes:Nat} {T t ty:TypeId} {i:TypeInfo} {z:Value} {R:World→List Value→α→Prop} (hR:ir R) (hone:∀(w:World) (cs:List Value) (x:α),R w cs x→∀u∈cs,u.oneCell'=true) (hT:T≠95∧T≠152)
  (ht:P.underlying t=some (.slice T)) (hi:P.info? T=some i) (hz:i.zero=some z) (hsize:i.size=size) (hby:i.bytes=bytes) (hzs:z.cells.size=size) (hsz:0 < size)
  {w:World} {v x:Value} {l m:List α} (hO:cw base T size R w v l) (hX:Rows size T R w x m) (h63:l.length + m.length≤maxLen) (hbytes:(l.length + m.length) * bytes≤140737488355328) (hbase:base≤w.heap.size):
  ∃v' w',(Builtin.append_ #[t,t] ty #[v,x]).run P w=.ok v' w'∧cw base T size R w' v' (l ++ m)∧Below base w w'∧dg T w w':=by
 by_cases hm:m.length=0
 ·obtain rfl:m=[]:=List.length_eq_zero_iff.1 hm
  obtain⟨ao,c,rfl, -, -, -⟩:=hX.slice
  obtain⟨a1,c1,rfl,hc1, -,hc3⟩:=hO.slice
  refine⟨_,w,?_,by rw[List.append_nil];exact hO,Below.refl _ _,dg.refl _ _⟩
  have hfc:(Builtin.firstCells size 0 (.slice ao 0 c)).run P w=.ok #[] w:=by
   cases ao with
   | none=>exact run_firstCells_none w _ _ _ _
   | some ad=>exact run_firstCells_some w size 0 ad 0 c [] (by simp) (by simp)
  have hso:(sizeOf T).run P w=.ok size w:=by rw[←hsize];simp[sizeOf,typeInfo,hi]
  cases a1 with
  | none=>simp[Builtin.append_,run_underlying ht,hso,hfc,Builtin.lenOf,hc1]
  | some ad=>simp[Builtin.append_,run_underlying ht,hso,hfc,Builtin.lenOf,hc1,storeCells]
 ·obtain⟨b,o,c,rfl, -, -, -⟩:=hX.open_ (by omega)
  obtain⟨css,h1,h2,h3,h4⟩:=hO
  obtain⟨dss,d1,d2,d3,d4,d5⟩:=rows_flatG hsz hone hX
  obtain⟨g,cap,w',hr,k1,k2,k3,k4⟩:=run_append_lies (P:=P) w t ty base T i z size bytes ht hi hz hsize hby hzs hsz v l.length _ h4 ⟨b,o,none⟩ m.length c dss.flatten (by rw[dz _ d2,d1]) d5 d4 (by omega) h63 hbytes hbase _ rfl
  exact⟨_,w',hr,cw.pushG hR h1 h2 h3 d1 d2 d3 k1 (aw.owns h4 k2 hT),(Below.refl base w).grown k2 hbase (fun k hk=>(h4.lt k hk).1),iu h4 k2⟩
theorem jg1 {α:Type} {P:Program} {o:Oper} {a:Act} {K:Act→World→Prop} {Q:Exit→Act→World→Prop} (s y:Operand) {base size bytes:Nat} {T t:TypeId} {i:TypeInfo} {z:Value} {R:World→List Value→α→Prop} (hR:ir R) (hone:∀(w:World) (cs:List Value) (x:α),R w cs x→∀u∈cs,u.oneCell'=true) (hT:T≠95∧T≠152)
  (ho:o.op=.call {callee:=.builtin .append,args:=#[s,y],argTypes:=#[t,t]})
  (ht:P.underlying t=some (.slice T)) (hi:P.info? T=some i) (hz:i.zero=some z) (hsize:i.size=size) (hby:i.bytes=bytes) (hzs:z.cells.size=size) (hsz:0 < size)
  {w:World} {v x:Value} {l m:List α} (hs:a.eval s=v) (hx:a.eval y=x) (hO:cw base T size R w v l) (hX:Rows size T R w x m) (h63:l.length + m.length≤maxLen) (hbytes:(l.length + m.length) * bytes≤140737488355328) (hbase:base≤w.heap.size)
  (h:∀v' w',cw base T size R w' v' (l ++ m)→Below base w w'→dg T w w'→K (a.put o.dst v') w'):o.wp P a w K Q:=by
 obtain⟨v',w',hr,h2,h3,h4⟩:=zx (P:=P) (t:=t) (ty:=o.type) hR hone hT ht hi hz hsize hby hzs hsz hO hX h63 hbytes hbase
 unfold Oper.wp execOp
 simp only[ho,resolve,invoke,builtin,Sem.run_bind,Sem.run_pure,Result.andThen_ok,List.map_toArray,List.map_cons,List.map_nil,hs,hx,hr]
 exact h v' w' h2 h3 h4
end Go.Proofs.YtidmjdmmpajooaaGreat
