/-
  How long intervals are together does not depend on the order among those that begin at one place: plain.
-/
import Derived.Test.YtidmjdmmpajooaaGreatPkV14N
set_option linter.unusedSimpArgs false
set_option linter.unusedVariables false
namespace Go.Proofs.YtidmjdmmpajooaaGreat
abbrev Spn:=Rat × Rat
theorem lnF_swap (s x y:Spn) (h:x.1=y.1):lnF (lnF s x) y=lnF (lnF s y) x:=by
 obtain⟨a,e⟩:=s;obtain⟨x1,x2⟩:=x;obtain⟨y1,y2⟩:=y
 simp only at h
 subst h
 unfold lnF
 simp only
 by_cases c1:e < x1
 ·simp only[if_pos c1]
  by_cases c2:x1 < x2<;>by_cases c3:x1 < y2
  ·simp only[if_pos c2,if_pos c3]
   rw[if_neg (show ¬ x2 < x1 by grind),if_neg (show ¬ y2 < x1 by grind)]
   by_cases c4:x2 < y2
   ·rw[if_pos c4,if_neg (show ¬ y2 < x2 by grind)];congr 1;grind
   ·rw[if_neg c4]
    by_cases c5:y2 < x2
    ·rw[if_pos c5];congr 1;grind
    ·rw[if_neg c5];congr 1<;>grind
  ·simp only[if_pos c2,if_neg c3]
   rw[if_neg (show ¬ x2 < x1 by grind),if_neg (show ¬ x2 < y2 by grind),if_neg (show ¬ x1 < x1 by grind),if_pos c2]
  ·simp only[if_neg c2,if_pos c3]
   rw[if_neg (show ¬ x1 < x1 by grind),if_pos c3,if_neg (show ¬ y2 < x1 by grind),if_neg (show ¬ y2 < x2 by grind)]
  ·simp only[if_neg c2,if_neg c3]
   rw[if_neg (show ¬ x1 < x1 by grind),if_neg c3,if_neg c2]
 ·simp only[if_neg c1]
  by_cases c2:e < x2<;>by_cases c3:e < y2
  ·simp only[if_pos c2,if_pos c3]
   rw[if_neg (show ¬ x2 < x1 by grind),if_neg (show ¬ y2 < x1 by grind)]
   by_cases c4:x2 < y2
   ·rw[if_pos c4,if_neg (show ¬ y2 < x2 by grind)];congr 1;grind
   ·rw[if_neg c4]
    by_cases c5:y2 < x2
    ·rw[if_pos c5];congr 1;grind
    ·rw[if_neg c5];congr 1<;>grind
  ·simp only[if_pos c2,if_neg c3]
   rw[if_neg (show ¬ x2 < x1 by grind),if_neg (show ¬ x2 < y2 by grind),if_neg c1,if_pos c2]
  ·simp only[if_neg c2,if_pos c3]
   rw[if_neg c1,if_pos c3,if_neg (show ¬ y2 < x1 by grind),if_neg (show ¬ y2 < x2 by grind)]
  ·simp only[if_neg c2,if_neg c3]
   rw[if_neg c1,if_neg c3,if_neg c2]
def lxB (x y:Spn):Bool:=decide (x.1 < y.1) || (decide (x.1=y.1) && decide (x.2≤y.2))
def jh (x:Spn):List Spn→List Spn
 | []=>[x]
 | y ::r=>if lxB x y=true then x ::y ::r else y ::jh x r
theorem us (x y:Spn):lxB x y=true↔x.1 < y.1∨x.1=y.1∧x.2≤y.2:=by unfold lxB;simp
theorem insX_mem {x z:Spn}:∀{l:List Spn},z∈jh x l→z=x∨z∈l
 | [],h=>by simp[jh] at h;exact .inl h
 | y ::r,h=>by
  unfold jh at h
  split at h
  ·rcases List.mem_cons.1 h with h|h
   ·exact .inl h
   ·exact .inr h
  ·rcases List.mem_cons.1 h with h|h
   ·exact .inr (h ▸ List.mem_cons_self)
   ·rcases insX_mem h with h|h
    ·exact .inl h
    ·exact .inr (List.mem_cons_of_mem _ h)
theorem insX_fold (x:Spn):∀(l:List Spn) (s:Spn),(∀y∈l,x.1≤y.1)→(jh x l).foldl lnF s=l.foldl lnF (lnF s x)
 | [],s,_=>rfl
 | y ::r,s,h=>by
  unfold jh
  split
  ·rfl
  ·rename_i hc
   have hxy:=h y List.mem_cons_self
   have he:x.1=y.1:=by
    refine Decidable.byContradiction fun hne=>hc ((us x y).2 (.inl ?_))
    grind
   show (jh x r).foldl lnF (lnF s y)=r.foldl lnF (lnF (lnF s x) y)
   rw[insX_fold x r (lnF s y) (fun z hz=>h z (List.mem_cons_of_mem _ hz)),lnF_swap s x y he]
theorem insX_comm (x y:Spn):∀l:List Spn,jh x (jh y l)=jh y (jh x l)
 | []=>by
  show (if lxB x y=true then [x,y] else [y,x])=(if lxB y x=true then [y,x] else [x,y])
  by_cases h1:lxB x y=true<;>by_cases h2:lxB y x=true
  ·have:x=y:=by
    rw[us] at h1 h2
    exact Prod.ext (by grind) (by grind)
   subst this;rfl
  ·rw[if_pos h1,if_neg h2]
  ·rw[if_neg h1,if_pos h2]
  ·rw[us] at h1 h2
   exact absurd h1 (by grind)
 | z ::r=>by
  have ih:=insX_comm x y r
  show jh x (if lxB y z=true then y ::z ::r else z ::jh y r)=jh y (if lxB x z=true then x ::z ::r else z ::jh x r)
  by_cases h1:lxB y z=true<;>by_cases h2:lxB x z=true
  ·rw[if_pos h1,if_pos h2]
   show (if lxB x y=true then x ::y ::z ::r else y ::(if lxB x z=true then x ::z ::r else z ::jh x r))=(if lxB y x=true then y ::x ::z ::r else x ::(if lxB y z=true then y ::z ::r else z ::jh y r))
   rw[if_pos h1,if_pos h2]
   by_cases h3:lxB x y=true<;>by_cases h4:lxB y x=true
   ·have:x=y:=by
     rw[us] at h3 h4
     exact Prod.ext (by grind) (by grind)
    subst this;rfl
   ·rw[if_pos h3,if_neg h4]
   ·rw[if_neg h3,if_pos h4]
   ·rw[us] at h3 h4
    exact absurd h3 (by grind)
  ·rw[if_pos h1,if_neg h2]
   have h3:¬ lxB x y=true:=fun h=>h2 (by rw[us] at h h1 ⊢;grind)
   show (if lxB x y=true then x ::y ::z ::r else y ::(if lxB x z=true then x ::z ::r else z ::jh x r))=(if lxB y z=true then y ::z ::jh x r else z ::jh y (jh x r))
   rw[if_neg h3,if_neg h2,if_pos h1]
  ·rw[if_neg h1,if_pos h2]
   have h3:¬ lxB y x=true:=fun h=>h1 (by rw[us] at h h2 ⊢;grind)
   show (if lxB x z=true then x ::z ::jh y r else z ::jh x (jh y r))=(if lxB y x=true then y ::x ::z ::r else x ::(if lxB y z=true then y ::z ::r else z ::jh y r))
   rw[if_neg h3,if_neg h1,if_pos h2]
  ·rw[if_neg h1,if_neg h2]
   show (if lxB x z=true then x ::z ::jh y r else z ::jh x (jh y r))=(if lxB y z=true then y ::z ::jh x r else z ::jh y (jh x r))
   rw[if_neg h2,if_neg h1,ih]
def canX (l:List Spn):List Spn:=l.foldr jh []
theorem canX_mem {z:Spn}:∀{l:List Spn},z∈canX l→z∈l
 | [],h=>by cases h
 | x ::r,h=>by
  rcases insX_mem (show z∈jh x (canX r) from h) with h|h
  ·exact h ▸ List.mem_cons_self
  ·exact List.mem_cons_of_mem _ (canX_mem h)
theorem xw:∀(l:List Spn) (s:Spn),l.Pairwise (fun a b=>a.1≤b.1)→(canX l).foldl lnF s=l.foldl lnF s
 | [],_,_=>rfl
 | x ::r,s,h=>by
  obtain⟨h1,h2⟩:=List.pairwise_cons.1 h
  show (jh x (canX r)).foldl lnF s=r.foldl lnF (lnF s x)
  rw[insX_fold x (canX r) s (fun y hy=>h1 y (canX_mem hy)),xw r _ h2]
theorem canX_perm {l l':List Spn} (h:l.Perm l'):canX l=canX l':=by
 induction h with
 | nil=>rfl
 | cons x _ ih=>show jh x _=jh x _;unfold canX at ih;rw[ih]
 | swap x y l=>exact insX_comm y x (canX l)
 | trans _ _ h1 h2=>exact h1.trans h2
theorem lnQ_fold {x:Spn} {r:List Spn} {e:Rat} (h:e < x.1):lnQ (x ::r)=((x ::r).foldl lnF (0,e)).1:=by
 show (r.foldl lnF _).1=(r.foldl lnF (lnF (0,e) x)).1
 congr 2
 unfold lnF
 simp only[if_pos h]
 by_cases c:x.1 < x.2
 ·rw[if_pos c,if_pos c,Rat.zero_add]
 ·rw[if_neg c,if_neg c]
theorem lnQ_perm {l l':List Spn} (hp:l.Perm l') (hs:l.Pairwise (fun a b=>a.1≤b.1)) (hs':l'.Pairwise (fun a b=>a.1≤b.1)):lnQ l=lnQ l':=by
 match l,l',hp,hs,hs' with
 | [],l',hp,_,_=>rw[List.Perm.eq_nil (hp.symm)]
 | x ::r,[],hp,_,_=>exact absurd hp.length_eq (by simp)
 | x ::r,y ::r',hp,hs,hs'=>
  obtain⟨h1,h2⟩:=List.pairwise_cons.1 hs
  obtain⟨h3,h4⟩:=List.pairwise_cons.1 hs'
  have e1:x.1≤y.1:=by
   rcases List.mem_cons.1 (hp.mem_iff.2 List.mem_cons_self:y∈x ::r) with h|h
   ·rw[h];exact Rat.le_refl
   ·exact h1 _ h
  have e2:y.1≤x.1:=by
   rcases List.mem_cons.1 (hp.mem_iff.1 List.mem_cons_self:x∈y ::r') with h|h
   ·rw[h];exact Rat.le_refl
   ·exact h3 _ h
  rw[lnQ_fold (e:=x.1 - 1) (by grind),lnQ_fold (e:=x.1 - 1) (by grind),←xw _ _ hs,←xw _ _ hs',canX_perm hp]
end Go.Proofs.YtidmjdmmpajooaaGreat
namespace Go.Proofs.YtidmjdmmpajooaaGreat
abbrev cn (l:List Spn) (i:Nat):Spn:=l.getD i (0,0)
def lnS (l:List Spn):Nat→Rat × Rat
 | 0=>(0,0)
 | k + 1=>
  let s:=lnS l k
  let e:=if k=0∨s.2 < (cn l k).1 then (cn l k).1 else s.2
  if e < (cn l k).2 then (s.1 + ((cn l k).2 - e),(cn l k).2) else (s.1,e)
theorem lnS_fold (x:Spn) (r:List Spn):∀k,k≤r.length→lnS (x ::r) (k + 1)=(r.take k).foldl lnF (if x.1 < x.2 then (x.2 - x.1,x.2) else (0,x.1))
 | 0,_=>by
  show (let s:Rat × Rat:=(0,0);let e:=if 0=0∨s.2 < x.1 then x.1 else s.2;if e < x.2 then (s.1 + (x.2 - e),x.2) else (s.1,e))=_
  simp only[true_or,if_true,List.take_zero,List.foldl_nil]
  by_cases c:x.1 < x.2
  ·rw[if_pos c,if_pos c,Rat.zero_add]
  ·rw[if_neg c,if_neg c]
 | k + 1,h=>by
  have ih:=lnS_fold x r k (by omega)
  have hx:r[k]?=some (r[k]'(by omega)):=List.getElem?_eq_getElem _
  have e1:cn (x ::r) (k + 1)=r[k]'(by omega):=by
   show (x ::r).getD (k + 1) (0,0)=_
   rw[List.getD_eq_getElem?_getD,List.getElem?_cons_succ,hx];rfl
  have e2:r.take (k + 1)=r.take k ++ [r[k]'(by omega)]:=by rw[List.take_add_one,hx];rfl
  rw[e2,List.foldl_append,←ih]
  show (let s:=lnS (x ::r) (k + 1);let e:=if k + 1=0∨s.2 < (cn (x ::r) (k + 1)).1 then (cn (x ::r) (k + 1)).1 else s.2;if e < (cn (x ::r) (k + 1)).2 then (s.1 + ((cn (x ::r) (k + 1)).2 - e),(cn (x ::r) (k + 1)).2) else (s.1,e))=lnF (lnS (x ::r) (k + 1)) (r[k]'(by omega))
  rw[e1]
  unfold lnF
  simp only[Nat.succ_ne_zero,false_or]
theorem lnS_all (l:List Spn):(lnS l l.length).1=lnQ l:=by
 cases l with
 | nil=>rfl
 | cons x r=>
  show (lnS (x ::r) (r.length + 1)).1=_
  rw[lnS_fold x r r.length (ag _),List.take_length]
  rfl
def prK (ys:List Rat):Nat→List Spn
 | 0=>[]
 | j + 1=>prK ys j ++ [(bj ys (2 * j),bj ys (2 * j + 1))]
theorem prK_front (a b:Rat) (r:List Rat):∀j,prK (a ::b ::r) (j + 1)=(a,b) ::prK r j
 | 0=>rfl
 | j + 1=>by
  show prK (a ::b ::r) (j + 1) ++ [(bj (a ::b ::r) (2 * (j + 1)),bj (a ::b ::r) (2 * (j + 1) + 1))]=(a,b) ::(prK r j ++ [(bj r (2 * j),bj r (2 * j + 1))])
  rw[prK_front a b r j]
  rfl
theorem prK_all:∀ys:List Rat,prK ys (ys.length / 2)=prQ ys
 | []=>rfl
 | [a]=>by show prK [a] (1 / 2)=[];rw[show 1 / 2=0 from rfl];rfl
 | a ::b ::r=>by
  have e:(a ::b ::r).length / 2=r.length / 2 + 1:=by show (r.length + 1 + 1) / 2=_;omega
  rw[e,prK_front,prK_all r];rfl
def uv (ps:List (List Edg)) (xs:List Rat):Nat→Rat
 | 0=>0
 | k + 1=>uv ps xs k + rr ps (bj xs k) (bj xs (k + 1))
theorem jf6 (ps:List (List Edg)) (a:Rat) (r:List Rat):∀k,uv ps (a ::r) (k + 1)=rr ps a (bj r 0) + uv ps r k
 | 0=>by show 0 + rr ps a (bj r 0)=rr ps a (bj r 0) + 0;rw[Rat.zero_add,Rat.add_zero]
 | k + 1=>by
  show uv ps (a ::r) (k + 1) + rr ps (bj (a ::r) (k + 1)) (bj (a ::r) (k + 1 + 1))=_ + (uv ps r k + rr ps (bj r k) (bj r (k + 1)))
  rw[jf6 ps a r k,Rat.add_assoc]
  rfl
theorem xk (ps:List (List Edg)):∀xs:List Rat,uv ps xs (xs.length - 1)=sumQ ps xs
 | []=>rfl
 | [_]=>rfl
 | a ::b ::r=>by
  show uv ps (a ::b ::r) (r.length + 1)=rr ps a b + sumQ ps (b ::r)
  rw[jf6,←xk ps (b ::r)]
  rfl
end Go.Proofs.YtidmjdmmpajooaaGreat
