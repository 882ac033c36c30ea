/-
  A block that holds the elements of a list, one behind the other, and into which is stored at an index that is a number of the walk. No function of the program is in sight here.
-/
import Derived.Test.YtidmjdmmpajooaaGreatPkV14N
import Derived.Laws.MakeOwn
set_option linter.unusedSimpArgs false
set_option linter.unusedVariables false
namespace Go.Proofs.YtidmjdmmpajooaaGreat
open Go.RowKit Dg
def ka {α:Type} (T:TypeId) (size:Nat) (R:World→List Value→α→Prop) (w:World) (g:Nat) (l:List α):Prop:=
 ∃css:List (List Value),css.length=l.length∧(∀cs∈css,cs.length=size)∧(∀(i:Nat) (cs:List Value) (x:α),css[i]?=some cs→l[i]?=some x→R w cs x)∧Bx w g T css.flatten.toArray
theorem vj {size:Nat}:∀(css:List (List Value)),(∀cs∈css,cs.length=size)→∀(i:Nat) (cs':List Value),cs'.length=size→i < css.length→∀j,(css.set i cs').flatten[j]?=if i * size≤j∧j < i * size + size then cs'[j - i * size]? else css.flatten[j]?
 | [],_,i,_,_,h,_=>by simp at h
 | c ::r,hs,0,cs',hc,_,j=>by
  have hl:c.length=size:=hs c (by simp)
  simp only[List.set_cons_zero,List.flatten_cons,Nat.zero_mul,Nat.zero_le,true_and,Nat.zero_add,Nat.sub_zero]
  by_cases e:j < size
  ·rw[if_pos e,List.getElem?_append_left (by omega)]
  ·rw[if_neg e,List.getElem?_append_right (by omega),List.getElem?_append_right (by omega),hc,hl]
 | c ::r,hs,i + 1,cs',hc,h,j=>by
  have hl:c.length=size:=hs c (by simp)
  have hm:(i + 1) * size=i * size + size:=Nat.succ_mul i size
  rw[List.set_cons_succ,List.flatten_cons,List.flatten_cons]
  by_cases e:j < size
  ·rw[List.getElem?_append_left (by omega),List.getElem?_append_left (by omega),if_neg (by omega)]
  ·rw[List.getElem?_append_right (by omega),List.getElem?_append_right (by omega),hl,vj r (fun x hx=>hs x (List.mem_cons_of_mem _ hx)) i cs' hc (by simpa using h) (j - size),hm]
   by_cases e2:i * size≤j - size∧j - size < i * size + size
   ·rw[if_pos e2,if_pos (by omega),show j - size - i * size=j - (i * size + size) by omega]
   ·rw[if_neg e2,if_neg (by omega)]
section
variable {α:Type} {T:TypeId} {size:Nat} {R:World→List Value→α→Prop} {w w':World} {g:Nat} {l:List α}
theorem ka.bx (h:ka T size R w g l):∃cs,Bx w g T cs:=by obtain⟨_,_,_,_,h⟩:=h;exact⟨_,h⟩
theorem ka.lt (h:ka T size R w g l):g < w.heap.size:=by obtain⟨_,h⟩:=h.bx;exact h.lt
theorem ka.ty (h:ka T size R w g l):TyB T w g:=by obtain⟨_,h⟩:=h.bx;exact h.ty
theorem ka.free (h:ka T size R w g l) (i:Nat):w.frozen? ⟨g,i,none⟩=false:=by obtain⟨_,h⟩:=h.bx;exact h.free i
theorem ka.gr (hR:ir R) (h:ka T size R w g l) {gs:List Nat} (hG:Gr gs w w') (hn:g ∉ gs) (hk:aw w w'):ka T size R w' g l:=by
 obtain⟨css,h1,h2,h3,h4⟩:=h
 exact⟨css,h1,h2,fun i cs x hc hx=>hR _ _ _ _ (h3 i cs x hc hx) hk,hG.bx h4 hn⟩
theorem ka.mono (hR:ir R) (h:ka T size R w g l) (hb:Below w.heap.size w w'):ka T size R w' g l:=by
 obtain⟨css,h1,h2,h3,h4⟩:=h
 exact⟨css,h1,h2,fun i cs x hc hx=>hR _ _ _ _ (h3 i cs x hc hx) (.of_below hb),h4.mono hb⟩
theorem ka.onlyT (hR:ir R) {t:TypeId} (h:ka T size R w g l) (ho:dg t w w') (hne:t≠T) (hd:t≠95∧t≠152):ka T size R w' g l:=by
 obtain⟨css,h1,h2,h3,h4⟩:=h
 exact⟨css,h1,h2,fun i cs x hc hx=>hR _ _ _ _ (h3 i cs x hc hx) (.of_only ho hd),h4.only ho hne⟩
theorem ka.cell (h:ka T size R w g l) {i:Nat} {x:α} (hx:l[i]?=some x):∃cs,cs.length=size∧R w cs x∧∀j u,cs[j]?=some u→w.cell? ⟨g,i * size + j,none⟩=some u:=by
 obtain⟨css,h1,h2,h3,h4⟩:=h
 have hi:=(List.getElem?_eq_some_iff.1 hx).1
 have hc:css[i]?=some (css[i]'(by omega)):=List.getElem?_eq_getElem _
 have hl:=h2 _ (List.getElem_mem (show i < css.length by omega))
 refine⟨css[i]'(by omega),hl,h3 _ _ _ hc hx,fun j u hu=>h4.at _ ?_⟩
 have hj:=(List.getElem?_eq_some_iff.1 hu).1
 rw[List.getElem?_toArray,js css h2 i j _ hc (by omega)]
 exact hu
theorem ka.rows (h:ka T size R w g l) (hl:l.length≤9223372036854775807):Rows size T R w (.slice (some ⟨g,0,none⟩) l.length l.length) l:=by
 refine⟨_,_,rfl,ag _,hl,(fun e=>by cases e),(fun a ea _=>by cases ea;exact h.ty),fun i x hx=>?_⟩
 obtain⟨cs,h1,h2,h3⟩:=h.cell hx
 refine⟨g,0,cs,rfl,h1,fun j u hu=>?_,h2⟩
 have:=h3 j u hu
 rw[Nat.zero_add];exact this
theorem ka.set3 {R:World→List Value→α→Prop} (hR:ir R) (h:ka T 3 R w g l) {i:Nat} (hi:i < l.length) {a b c:Value} {x:α} (hk:aw w w') (hx:R w' [a,b,c] x)
  (hw:w'=((w.setCell ⟨g,i * 3,none⟩ a).setCell ⟨g,i * 3 + 1,none⟩ b).setCell ⟨g,i * 3 + 2,none⟩ c):ka T 3 R w' g (l.set i x):=by
 obtain⟨css,h1,h2,h3,h4⟩:=h
 have hf:=dz css h2
 refine⟨css.set i [a,b,c],by simp[h1],fun cs hcs=>?_,fun j cs y hc hy=>?_,?_⟩
 ·rcases List.mem_or_eq_of_mem_set hcs with m|rfl
  ·exact h2 _ m
  ·rfl
 ·rw[List.getElem?_set] at hc hy
  by_cases e:i=j
  ·subst e
   rw[if_pos rfl,if_pos (by omega)] at hc
   rw[if_pos rfl,if_pos hi] at hy
   cases hc;cases hy;exact hx
  ·rw[if_neg e] at hc hy
   exact hR _ _ _ _ (h3 j cs y hc hy) hk
 ·rw[hw]
  refine (((h4.set _ _ rfl).set _ _ rfl).set _ _ ?_)
  apply Array.toList_inj.1
  simp only[Array.toList_setIfInBounds]
  refine List.ext_getElem? fun j=>?_
  rw[vj css h2 i _ rfl (by omega) j]
  simp only[List.getElem?_set,List.length_set]
  have hb:i * 3 + 3≤css.flatten.length:=by rw[hf];omega
  by_cases e0:j=i * 3
  ·subst e0
   rw[if_neg (by omega),if_neg (by omega),if_pos rfl,if_pos (by omega),if_pos (by omega),Nat.sub_self];rfl
  ·by_cases e1:j=i * 3 + 1
   ·subst e1
    rw[if_neg (by omega),if_pos rfl,if_pos (by omega),if_pos (by omega),show i * 3 + 1 - i * 3=1 by omega];rfl
   ·by_cases e2:j=i * 3 + 2
    ·subst e2
     rw[if_pos rfl,if_pos (by omega),if_pos (by omega),show i * 3 + 2 - i * 3=2 by omega];rfl
    ·rw[if_neg (by omega),if_neg (by omega),if_neg (by omega),if_neg (by omega)]
theorem ka.put3 {R:World→List Value→α→Prop} (hR:ir R) (h:ka T 3 R w g l) {i:Nat} (hi:i < l.length) (hT:T≠95∧T≠152) {a b c:Value} {x:α} (hx:R w [a,b,c] x)
  (hG:Gr [] (((w.setCell ⟨g,i * 3,none⟩ a).setCell ⟨g,i * 3 + 1,none⟩ b).setCell ⟨g,i * 3 + 2,none⟩ c) w'):ka T 3 R w' g (l.set i x):=by
 have hk:aw w (((w.setCell ⟨g,i * 3,none⟩ a).setCell ⟨g,i * 3 + 1,none⟩ b).setCell ⟨g,i * 3 + 2,none⟩ c):=(((Gr.refl [g] w).set.set.set:Gr [g] w _)).keep ⟨⟨T,h.ty,hT⟩,True.intro⟩
 have h':=h.set3 hR hi hk (hR _ _ _ _ hx hk) rfl
 exact h'.gr hR hG (by simp) (hG.keep True.intro)
theorem made_at {z:Array Value} {n i:Nat} (hi:i < n):(madeCells z n).toList[i]?=some (z[i % z.size]!):=by
 unfold madeCells
 simp[hi]
theorem ka.made {base:Nat} {T:TypeId} {n:Nat} {z0 z1 z2:Value} {R:World→List Value→α→Prop} {x:α} (h:w.ownsRow base T 3 (.slice (some ⟨g,0,none⟩) n n) n (madeCells #[z0,z1,z2] (n * 3)).toList) (hn:0 < n) (hx:R w [z0,z1,z2] x):ka T 3 R w g (List.replicate n x):=by
 obtain⟨h1,h2⟩:=h
 rcases h2 with ⟨e,_⟩|⟨g',cap,cur,hv,_,hg,_,_,hs,ht⟩
 ·cases e
 ·injection hv with e1 e2 e3
  injection e1 with e1
  injection e1 with e1 _
  subst e1 e3
  refine⟨List.replicate n [z0,z1,z2],by simp,fun cs hcs=>?_,fun i cs y hc hy=>?_,?_⟩
  ·rw[(List.mem_replicate.1 hcs).2];rfl
  ·have h1:=List.mem_of_getElem? hc
   have h2:=List.mem_of_getElem? hy
   rw[(List.mem_replicate.1 h1).2,(List.mem_replicate.1 h2).2];exact hx
  ·unfold Bx
   have e:cur=(List.replicate n [z0,z1,z2]).flatten.toArray:=by
    apply Array.toList_inj.1
    rw[List.toList_toArray]
    have hl:(List.replicate n [z0,z1,z2]).flatten.length=n * 3:=by
     rw[dz (size:=3) _ (fun cs hcs=>by rw[(List.mem_replicate.1 hcs).2];rfl),List.length_replicate]
    rw[List.take_of_length_le (by rw[Array.length_toList];omega)] at ht
    rw[ht]
    refine List.ext_getElem? fun j=>?_
    by_cases hj:j < n * 3
    ·rw[made_at hj]
     have hd:=Nat.div_add_mod j 3
     have hm:=Nat.mod_lt j (show 0 < 3 by decide)
     have hi:j / 3 < n:=by omega
     have hq:(List.replicate n [z0,z1,z2])[j / 3]?=some [z0,z1,z2]:=by rw[List.getElem?_replicate,if_pos hi]
     have:=js (size:=3) _ (fun cs hcs=>by rw[(List.mem_replicate.1 hcs).2];rfl) (j / 3) (j % 3) _ hq hm
     rw[show j / 3 * 3 + j % 3=j by omega] at this
     rw[this]
     show some (#[z0,z1,z2][j % 3]!)=_
     rcases (show j % 3=0∨j % 3=1∨j % 3=2 by omega) with e|e|e<;>rw[e]<;>rfl
    ·rw[List.getElem?_eq_none (by rw[Array.length_toList,size_madeCells];omega),List.getElem?_eq_none (by rw[hl];omega)]
   rw[←e];exact hg
end
end Go.Proofs.YtidmjdmmpajooaaGreat
namespace Go.Proofs.YtidmjdmmpajooaaGreat
open Go.RowKit Dg
def gi {α:Type} (base:Nat) (T:TypeId) (size:Nat) (R:World→List Value→α→Prop) (cap:Nat) (w:World) (g:Nat) (l:List α):Prop:=cw base T size R w (.slice (some ⟨g,0,none⟩) l.length cap) l
section
variable {α:Type} {base:Nat} {T:TypeId} {size:Nat} {R:World→List Value→α→Prop} {w w':World} {g cap:Nat} {l:List α} {v:Value}
theorem cw.openG (h:cw base T size R w v l) (hl:0 < l.length):∃g cap,v=.slice (some ⟨g,0,none⟩) l.length cap∧base≤g∧l.length≤cap∧cap≤maxLen:=by
 obtain⟨css,_,_,_,e1,e2⟩:=h
 rcases e2 with ⟨_,e⟩|⟨g,cap,cur,hv,hb,_,hc,hm,_⟩
 ·omega
 ·exact⟨g,cap,hv,hb,hc,hm⟩
theorem gi.bx (h:gi base T size R cap w g l):∃css:List (List Value),∃cur,css.length=l.length∧(∀cs∈css,cs.length=size)∧(∀(i:Nat) (cs:List Value) (x:α),css[i]?=some cs→l[i]?=some x→R w cs x)∧base≤g∧Bx w g T cur∧l.length≤cap∧cap≤maxLen∧cur.size=cap * size∧cur.toList.take (l.length * size)=css.flatten:=by
 obtain⟨css,h1,h2,h3,e1,e2⟩:=h
 rcases e2 with ⟨e,_⟩|⟨g',cap',cur,hv,hb,hg,hc,hm,hs,ht⟩
 ·cases e
 ·injection hv with a1 a2 a3
  injection a1 with a1
  injection a1 with a1 _
  subst a1 a3
  exact⟨css,cur,h1,h2,h3,hb,hg,hc,hm,hs,ht⟩
theorem gi.lt (h:gi base T size R cap w g l):g < w.heap.size:=by obtain⟨_,_,_,_,_,_,b,_⟩:=h.bx;exact b.lt
theorem gi.low (h:gi base T size R cap w g l):base≤g:=by obtain⟨_,_,_,_,_,b,_⟩:=h.bx;exact b
theorem gi.ty (h:gi base T size R cap w g l):TyB T w g:=by obtain⟨_,_,_,_,_,_,b,_⟩:=h.bx;exact b.ty
theorem gi.free (h:gi base T size R cap w g l) (i:Nat):w.frozen? ⟨g,i,none⟩=false:=by obtain⟨_,_,_,_,_,_,b,_⟩:=h.bx;exact b.free i
theorem gi.gr (hR:ir R) (h:gi base T size R cap w g l) {gs:List Nat} (hG:Gr gs w w') (hn:g ∉ gs) (hk:aw w w'):gi base T size R cap w' g l:=
 cw.gr hR h hG (fun k hk e=>hn (by injection e with e;have e:g=k:=e;subst e;exact hk)) hk
theorem gi.mono (hR:ir R) (h:gi base T size R cap w g l) (hb:Below w.heap.size w w'):gi base T size R cap w' g l:=cw.mono hR h hb
theorem gi.cell (h:gi base T size R cap w g l) {i:Nat} {x:α} (hx:l[i]?=some x):∃cs,cs.length=size∧R w cs x∧∀j u,cs[j]?=some u→w.cell? ⟨g,i * size + j,none⟩=some u:=by
 obtain⟨css,cur,h1,h2,h3,_,h4,hc,_,hs,ht⟩:=h.bx
 have hi:=(List.getElem?_eq_some_iff.1 hx).1
 have hcs:css[i]?=some (css[i]'(by omega)):=List.getElem?_eq_getElem _
 have hl:=h2 _ (List.getElem_mem (show i < css.length by omega))
 refine⟨css[i]'(by omega),hl,h3 _ _ _ hcs hx,fun j u hu=>h4.at _ ?_⟩
 have hj:=(List.getElem?_eq_some_iff.1 hu).1
 have e:=js css h2 i j _ hcs (by omega)
 have hb:i * size + j < l.length * size:=by
  have:(i + 1) * size≤l.length * size:=Nat.mul_le_mul_right _ (by omega)
  rw[Nat.succ_mul] at this;omega
 rw[←ht,List.getElem?_take,if_pos hb] at e
 rw[←Array.getElem?_toList,e]
 exact hu
theorem gi.put (hR:ir R) (h:gi base T size R cap w g l) {i j:Nat} {x x':α} (hx:l[i]?=some x) (hj:j < size) (hT:T≠95∧T≠152) {u:Value} (hRx:∀(w:World) (cs:List Value),cs.length=size→R w cs x→R w (cs.set j u) x')
  (hG:Gr [] (w.setCell ⟨g,i * size + j,none⟩ u) w'):gi base T size R cap w' g (l.set i x'):=by
 have hGk:Gr [g] w (w.setCell ⟨g,i * size + j,none⟩ u):=(Gr.refl [g] w).set
 have hk:aw w (w.setCell ⟨g,i * size + j,none⟩ u):=hGk.keep ⟨⟨T,h.ty,hT⟩,True.intro⟩
 suffices H:gi base T size R cap (w.setCell ⟨g,i * size + j,none⟩ u) g (l.set i x') from H.gr hR hG (by simp) (hG.keep True.intro)
 obtain⟨css,cur,h1,h2,h3,hb,h4,hc,hm,hs,ht⟩:=h.bx
 have hi:=(List.getElem?_eq_some_iff.1 hx).1
 have hcs:css[i]?=some (css[i]'(by omega)):=List.getElem?_eq_getElem _
 have hcl:=h2 _ (List.getElem_mem (show i < css.length by omega))
 have hbi:i * size + j < l.length * size:=by
  have:(i + 1) * size≤l.length * size:=Nat.mul_le_mul_right _ (by omega)
  rw[Nat.succ_mul] at this;omega
 have hn2:∀cs∈css.set i ((css[i]'(by omega)).set j u),cs.length=size:=fun cs hm=>by
  rcases List.mem_or_eq_of_mem_set hm with m|rfl
  ·exact h2 _ m
  ·rw[List.length_set];exact hcl
 refine⟨css.set i ((css[i]'(by omega)).set j u),by simp[h1],hn2,fun k cs y hc' hy=>?_,?_,?_⟩
 ·rw[List.getElem?_set] at hc' hy
  by_cases e:i=k
  ·subst e
   rw[if_pos rfl,if_pos (by omega)] at hc'
   rw[if_pos rfl,if_pos hi] at hy
   cases hc';cases hy
   exact hRx _ _ hcl (hR _ _ _ _ (h3 _ _ _ hcs hx) hk)
  ·rw[if_neg e] at hc' hy
   exact hR _ _ _ _ (h3 k cs y hc' hy) hk
 ·rw[dz _ hn2];simp[h1]
 ·have hset:=h4.set (i * size + j) u (cs':=cur.setIfInBounds (i * size + j) u) rfl
  refine .inr ⟨g,cap,_,by rw[List.length_set],hb,hset,by rw[List.length_set];exact hc,hm,by simp[hs],?_⟩
  rw[List.length_set]
  refine List.ext_getElem? fun k=>?_
  rw[vj css h2 i _ (by rw[List.length_set];exact hcl) (by omega) k,←ht]
  simp only[Array.toList_setIfInBounds,List.getElem?_take,List.getElem?_set,Array.length_toList]
  have hcap:l.length * size≤cap * size:=Nat.mul_le_mul_right _ hc
  by_cases hk:k < l.length * size
  ·rw[if_pos hk,if_pos hk]
   by_cases e:i * size + j=k
   ·subst e
    rw[if_pos rfl,if_pos (by omega),if_pos (by omega),if_pos (by omega),if_pos (by omega)]
   ·rw[if_neg e]
    by_cases e2:i * size≤k∧k < i * size + size
    ·rw[if_pos e2,if_neg (show ¬ j=k - i * size by omega)]
     have e3:=js css h2 i (k - i * size) _ hcs (by omega)
     rw[show i * size + (k - i * size)=k by omega,←ht,List.getElem?_take,if_pos hk] at e3
     rw[e3]
    ·rw[if_neg e2]
  ·rw[if_neg hk,if_neg hk]
   rw[if_neg (fun e2=>?_)]
   have:(i + 1) * size≤l.length * size:=Nat.mul_le_mul_right _ (by omega)
   rw[Nat.succ_mul] at this;omega
theorem gi.take (h:gi base T size R cap w g l) {k:Nat} (hk:k≤l.length):cw base T size R w (.slice (some ⟨g,0,none⟩) k cap) (l.take k):=by
 obtain⟨css,cur,h1,h2,h3,hb,h4,hc,hm,hs,ht⟩:=h.bx
 have hlk:(l.take k).length=k:=by rw[List.length_take];omega
 have hn2:∀cs∈css.take k,cs.length=size:=fun cs hm=>h2 _ (List.mem_of_mem_take hm)
 refine⟨css.take k,by simp[h1],hn2,fun i cs x hc' hx=>?_,?_,.inr ⟨g,cap,cur,by rw[hlk],hb,h4,by omega,hm,hs,?_⟩⟩
 ·rw[List.getElem?_take] at hc' hx
  split at hc'
  ·rename_i hi
   rw[if_pos hi] at hx
   exact h3 _ _ _ hc' hx
  ·cases hc'
 ·rw[dz _ hn2];simp[h1]
 ·rw[hlk]
  refine List.ext_getElem? fun m=>?_
  have hf1:=dz _ hn2
  have hf2:=dz _ h2
  rw[List.getElem?_take]
  by_cases hmk:m < k * size
  ·rw[if_pos hmk]
   have hkl:k * size≤l.length * size:=Nat.mul_le_mul_right _ hk
   have e:cur.toList[m]?=css.flatten[m]?:=by rw[←ht,List.getElem?_take,if_pos (by omega)]
   rw[e]
   have e2:css.flatten=(css.take k).flatten ++ (css.drop k).flatten:=by rw[←List.flatten_append,List.take_append_drop]
   rw[e2,List.getElem?_append_left (by rw[hf1,List.length_take];rw[show min k css.length=k by omega];exact hmk)]
  ·rw[if_neg hmk,List.getElem?_eq_none (by rw[hf1,List.length_take,show min k css.length=k by omega];omega)]
end
end Go.Proofs.YtidmjdmmpajooaaGreat
namespace Go.Proofs.YtidmjdmmpajooaaGreat
open Go.RowKit Dg
theorem uc {w:World} {base:Nat} {T:TypeId} {cap g:Nat} {L:List Rat} {i:Nat} (h:gi base T 3 PC cap w g L) (hi:i < L.length):
  ∃g' a n' c' A N D,w.cell? ⟨g,i * 3,none⟩=some (.bool g')∧w.cell? ⟨g,i * 3 + 1,none⟩=some (.slice a n' c')∧w.cell? ⟨g,i * 3 + 2,none⟩=some (.slice A N D)∧PV w (.agg #[.bool g',.slice a n' c',.slice A N D]) (bj L i)∧g < w.heap.size:=by
 obtain⟨cs,_,hc,hat⟩:=h.cell (ia hi)
 obtain⟨g',a,n,c,A,N,D,rfl,hp⟩:=hc.cells
 exact⟨g',a,n,c,A,N,D,hat 0 _ rfl,hat 1 _ rfl,hat 2 _ rfl,hp,h.lt⟩
theorem gi.put3 {α:Type} {base:Nat} {T:TypeId} {R:World→List Value→α→Prop} {w w':World} {g cap:Nat} {l:List α} (hR:ir R) (h:gi base T 3 R cap w g l) {i:Nat} (hi:i < l.length) (hT:T≠95∧T≠152) {a b c:Value} {x:α} (hx:R w [a,b,c] x)
  (hG:Gr [] (((w.setCell ⟨g,i * 3,none⟩ a).setCell ⟨g,i * 3 + 1,none⟩ b).setCell ⟨g,i * 3 + 2,none⟩ c) w'):gi base T 3 R cap w' g (l.set i x):=by
 have hk:aw w (((w.setCell ⟨g,i * 3,none⟩ a).setCell ⟨g,i * 3 + 1,none⟩ b).setCell ⟨g,i * 3 + 2,none⟩ c):=(((Gr.refl [g] w).set.set.set:Gr [g] w _)).keep ⟨⟨T,h.ty,hT⟩,True.intro⟩
 suffices H:gi base T 3 R cap (((w.setCell ⟨g,i * 3,none⟩ a).setCell ⟨g,i * 3 + 1,none⟩ b).setCell ⟨g,i * 3 + 2,none⟩ c) g (l.set i x) from H.gr hR hG (by simp) (hG.keep True.intro)
 obtain⟨css,cur,h1,h2,h3,hb,h4,hc,hm,hs,ht⟩:=h.bx
 have hf:=dz css h2
 have hn2:∀cs∈css.set i [a,b,c],cs.length=3:=fun cs hcs=>by
  rcases List.mem_or_eq_of_mem_set hcs with m|rfl
  ·exact h2 _ m
  ·rfl
 refine⟨css.set i [a,b,c],by simp[h1],hn2,fun j cs y hc' hy=>?_,?_,?_⟩
 ·rw[List.getElem?_set] at hc' hy
  by_cases e:i=j
  ·subst e
   rw[if_pos rfl,if_pos (by omega)] at hc'
   rw[if_pos rfl,if_pos hi] at hy
   cases hc';cases hy;exact hR _ _ _ _ hx hk
  ·rw[if_neg e] at hc' hy
   exact hR _ _ _ _ (h3 j cs y hc' hy) hk
 ·rw[dz _ hn2];simp[h1]
 ·have hset:=((h4.set (i * 3) a (cs':=cur.setIfInBounds (i * 3) a) rfl).set (i * 3 + 1) b rfl).set (i * 3 + 2) c rfl
  refine .inr ⟨g,cap,_,by rw[List.length_set],hb,hset,by rw[List.length_set];exact hc,hm,by simp[hs],?_⟩
  rw[List.length_set]
  refine List.ext_getElem? fun j=>?_
  rw[vj css h2 i _ rfl (by omega) j,←ht]
  simp only[Array.toList_setIfInBounds,List.getElem?_take,List.getElem?_set,List.length_set,Array.length_toList]
  have hcap:l.length * 3≤cap * 3:=Nat.mul_le_mul_right _ hc
  by_cases hj:j < l.length * 3
  ·rw[if_pos hj,if_pos hj]
   by_cases e0:j=i * 3
   ·subst e0
    rw[if_neg (by omega),if_neg (by omega),if_pos rfl,if_pos (by omega),if_pos (by omega),Nat.sub_self];rfl
   ·by_cases e1:j=i * 3 + 1
    ·subst e1
     rw[if_neg (by omega),if_pos rfl,if_pos (by omega),if_pos (by omega),show i * 3 + 1 - i * 3=1 by omega];rfl
    ·by_cases e2:j=i * 3 + 2
     ·subst e2
      rw[if_pos rfl,if_pos (by omega),if_pos (by omega),show i * 3 + 2 - i * 3=2 by omega];rfl
     ·rw[if_neg (by omega),if_neg (by omega),if_neg (by omega),if_neg (by omega)]
  ·rw[if_neg hj,if_neg (by omega),if_neg hj]
end Go.Proofs.YtidmjdmmpajooaaGreat
