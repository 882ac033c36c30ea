/-
  Windows: the program's sum and the reference's are the area of the points in the window that a box has: plain.
-/
import Derived.Test.YtidmjdmmpajooaaGreatWn6W
set_option linter.unusedSimpArgs false
set_option linter.unusedVariables false
namespace Go.Proofs.YtidmjdmmpajooaaGreat
def sN (f:Nat→Int):Nat→Int
 | 0=>0
 | n + 1=>sN f n + f n
theorem sN_congr {f g:Nat→Int}:∀{n:Nat},(∀j,j < n→f j=g j)→sN f n=sN g n
 | 0,_=>rfl
 | n + 1,h=>by
  show sN f n + f n=sN g n + g n
  rw[sN_congr (fun j hj=>h j (by omega)),h n (by omega)]
theorem sN_front (f:Nat→Int):∀n,sN f (n + 1)=f 0 + sN (fun j=>f (j + 1)) n
 | 0=>by show (0:Int) + f 0=f 0 + 0;omega
 | n + 1=>by
  show sN f (n + 1) + f (n + 1)=f 0 + (sN (fun j=>f (j + 1)) n + f (n + 1))
  rw[sN_front f n];omega
theorem sN_mul (f:Nat→Int) (c:Int):∀n,sN (fun j=>c * f j) n=c * sN f n
 | 0=>by show (0:Int)=c * 0;omega
 | n + 1=>by
  show sN (fun j=>c * f j) n + c * f n=c * (sN f n + f n)
  rw[sN_mul f c n,Int.mul_add]
theorem nthI_cons_succ (a:Int) (l:List Int) (j:Nat):nthI (a ::l) (j + 1)=nthI l j:=by unfold nthI;rw[List.getD_cons_succ]
theorem ptS_ix (x z:Int):∀(xs:List Int) (i:Nat) (G:Nat→Int),ptS G x z i xs=sN (fun j=>wdZ (nthI xs j) (nthI xs (j + 1)) x z * G (i + j)) (xs.length - 1)
 | [],_,_=>rfl
 | [_],_,_=>rfl
 | a ::b ::r,i,G=>by
  have ih:=ptS_ix x z (b ::r) (i + 1) G
  show wdZ a b x z * G i + ptS G x z (i + 1) (b ::r)=sN _ (r.length + 1)
  rw[ih,sN_front]
  show wdZ a b x z * G i + sN _ r.length=wdZ a b x z * G (i + 0) + sN _ r.length
  rw[Nat.add_zero]
  congr 1
  refine sN_congr fun j _=>?_
  rw[nthI_cons_succ a,nthI_cons_succ a,show i + 1 + j=i + (j + 1) by omega]
def bxH (o:Bxx) (u v:Int):Prop:=(o.1.1≤u∧u < o.2.1)∧(o.1.2≤v∧v < o.2.2)
instance (o:Bxx) (u v:Int):Decidable (bxH o u v):=by unfold bxH;infer_instance
open Classical in
noncomputable def cvI (L:List Bxx) (u v:Int):Int:=if ∃o∈L,bxH o u v then 1 else 0
noncomputable def arI (L:List Bxx) (x0 x1 y0 y1:Int):Int:=smB (fun u=>smB (fun v=>cvI L u v) y0 y1) x0 x1
theorem inK_iff {X Y:List Int} {L:List Bxx} {i k:Nat}:∀n,inK X Y L i k n=true↔∃j,j < n∧inJ X Y (bxZ L j) i k=true
 | 0=>by constructor;(intro h;cases h);(rintro ⟨j,h,_⟩;omega)
 | n + 1=>by
  show (inK X Y L i k n || inJ X Y (bxZ L n) i k)=true↔_
  rw[Bool.or_eq_true,inK_iff n]
  constructor
  ·rintro (⟨j,h,e⟩|h)
   ·exact⟨j,by omega,e⟩
   ·exact⟨n,by omega,h⟩
  ·rintro ⟨j,h,e⟩
   by_cases c:j=n
   ·subst c;exact .inr e
   ·exact .inl ⟨j,by omega,e⟩
theorem inJ_iff {X Y:List Int} {o:Bxx} {i k:Nat}:inJ X Y o i k=true↔(o.1.1≤nthI X i∧nthI X (i + 1)≤o.2.1)∧(o.1.2≤nthI Y k∧nthI Y (k + 1)≤o.2.2):=by
 unfold inJ
 simp only[Bool.and_eq_true,decide_eq_true_eq]
 constructor
 ·rintro ⟨a,b,c,d⟩;exact⟨⟨a,b⟩,c,d⟩
 ·rintro ⟨⟨a,b⟩,c,d⟩;exact⟨a,b,c,d⟩
theorem inK_mem {X Y:List Int} {L:List Bxx} {i k:Nat}:inK X Y L i k L.length=true↔∃o∈L,(o.1.1≤nthI X i∧nthI X (i + 1)≤o.2.1)∧(o.1.2≤nthI Y k∧nthI Y (k + 1)≤o.2.2):=by
 rw[inK_iff]
 constructor
 ·rintro ⟨j,h,e⟩
  exact⟨_,bxZ_mem h,inJ_iff.1 e⟩
 ·rintro ⟨o,ho,e⟩
  obtain⟨j,hj,rfl⟩:=List.mem_iff_getElem.1 ho
  refine⟨j,hj,inJ_iff.2 ?_⟩
  have:bxZ L j=L[j]:=by unfold bxZ;rw[List.getD_eq_getElem?_getD,List.getElem?_eq_getElem hj];rfl
  rw[this];exact e
theorem asc_gap {X:List Int} (hX:X.Pairwise (· < ·)) {i:Nat} (hi:i + 1 < X.length) {e:Int} (he:e∈X):e≤nthI X i∨nthI X (i + 1)≤e:=by
 obtain⟨j,hj,rfl⟩:=List.mem_iff_getElem.1 he
 have g:∀t,(ht:t < X.length)→nthI X t=X[t]:=fun t ht=>by unfold nthI;rw[List.getD_eq_getElem?_getD,List.getElem?_eq_getElem ht];rfl
 rw[g i (by omega),g (i + 1) hi]
 have mono:∀a b,(ha:a < X.length)→(hb:b < X.length)→a≤b→X[a]≤X[b]:=fun a b ha hb h=>by
  by_cases c:a=b
  ·subst c;exact Int.le_refl _
  ·exact Int.le_of_lt (List.pairwise_iff_getElem.1 hX a b ha hb (by omega))
 by_cases c:j≤i
 ·exact .inl (mono j i hj (by omega) c)
 ·exact .inr (mono (i + 1) j hi hj (by omega))
theorem asc_last {X:List Int} (hX:X.Pairwise (· < ·)) {l:Int} (hl:X.getLast?=some l) {e:Int} (he:e∈X):e≤l:=by
 obtain⟨j,hj,rfl⟩:=List.mem_iff_getElem.1 he
 rw[List.getLast?_eq_getElem?] at hl
 obtain⟨hk,e⟩:=List.getElem?_eq_some_iff.1 hl
 rw[←e]
 by_cases c:j=X.length - 1
 ·subst c;exact Int.le_refl _
 ·exact Int.le_of_lt (List.pairwise_iff_getElem.1 hX j (X.length - 1) hj hk (by omega))
theorem asc_head {X:List Int} (hX:X.Pairwise (· < ·)) {p:Int} (hp:X.head?=some p) {e:Int} (he:e∈X):p≤e:=by
 cases X with
 | nil=>cases hp
 | cons a r=>
  have:a=p:=by simpa using hp
  subst this
  rcases List.mem_cons.1 he with rfl|he
  ·exact Int.le_refl _
  ·exact Int.le_of_lt ((List.pairwise_cons.1 hX).1 e he)
theorem nth_opt {X:List Int} {j:Nat} {p:Int} (h:X[j]?=some p):nthI X j=p∧j < X.length:=by
 obtain⟨hj,e⟩:=List.getElem?_eq_some_iff.1 h
 exact⟨by unfold nthI;rw[List.getD_eq_getElem?_getD,h];rfl,hj⟩
theorem prt_sum {X:List Int} (hX:X.Pairwise (· < ·)) {g:Int→Int} {G:Nat→Int} {x z:Int} (hg:∀j,j + 1 < X.length→∀u,nthI X j≤u→u < nthI X (j + 1)→g u=G j)
  (h0:∀u,(∀e∈X,u < e)→g u=0) (h1:∀u,(∀e∈X,e≤u)→g u=0):sN (fun j=>wdZ (nthI X j) (nthI X (j + 1)) x z * G j) (X.length - 1)=smB g x z:=by
 cases hh:X.head? with
 | none=>
  have:X=[]:=by cases X with
   | nil=>rfl
   | cons a r=>cases hh
  subst this
  show (0:Int)=_
  rw[smB_const (G:=0) (fun u _ _=>h0 u (fun e he=>by cases he)),Int.mul_zero]
 | some p=>
  have e:=ptS_ix x z X 0 G
  simp only[Nat.zero_add] at e
  rw[←e,ptS_sum X 0 G hX (fun j a b ha hb u u1 u2=>by
   obtain⟨e1,_⟩:=nth_opt ha
   obtain⟨e2,hj⟩:=nth_opt hb
   rw[Nat.zero_add]
   exact hg j hj u (by rw[e1];exact u1) (by rw[e2];exact u2)) (fun l hl u hu=>h1 u (fun e he=>Int.le_trans (asc_last hX hl he) hu)) p hh]
  by_cases c1:p≤x
  ·rw[show max p x=x by omega]
  ·by_cases c2:z≤p
   ·rw[show max p x=p by omega,smB_none c2,smB_const (G:=0) (fun u u1 u2=>h0 u (fun e he=>by have:=asc_head hX hh he;omega)),Int.mul_zero]
   ·rw[show max p x=p by omega,smB_split (show x≤p by omega) (show p≤z by omega),smB_const (G:=0) (a:=x) (b:=p) (fun u u1 u2=>h0 u (fun e he=>by have:=asc_head hX hh he;omega)),Int.mul_zero,Int.zero_add]
theorem smB_congr {g g':Int→Int} {a b:Int} (h:∀u,g u=g' u):smB g a b=smB g' a b:=by
 have:g=g':=funext h
 rw[this]
theorem smB_zero {a b:Int}:smB (fun _=>(0:Int)) a b=0:=by rw[smB_const (G:=0) (fun _ _ _=>rfl),Int.mul_zero]
theorem area_sum {X Y:List Int} {L:List Bxx} (hX:X.Pairwise (· < ·)) (hY:Y.Pairwise (· < ·)) (eX:∀o∈L,o.1.1∈X∧o.2.1∈X) (eY:∀o∈L,o.1.2∈Y∧o.2.2∈Y) (x0 x1 y0 y1:Int):
  sN (fun i=>sN (fun k=>if inK X Y L i k L.length=true then wdZ (nthI X i) (nthI X (i + 1)) x0 x1 * wdZ (nthI Y k) (nthI Y (k + 1)) y0 y1 else 0) (Y.length - 1)) (X.length - 1)=arI L x0 x1 y0 y1:=by
 classical
 unfold arI
 rw[←prt_sum hX (g:=fun u=>smB (fun v=>cvI L u v) y0 y1) (G:=fun i=>smB (fun v=>if ∃o∈L,(o.1.1≤nthI X i∧nthI X (i + 1)≤o.2.1)∧(o.1.2≤v∧v < o.2.2) then (1:Int) else 0) y0 y1) (x:=x0) (z:=x1) ?_ ?_ ?_]
 ·refine sN_congr fun i hi=>?_
  have h2:=prt_sum hY (g:=fun v=>if ∃o∈L,(o.1.1≤nthI X i∧nthI X (i + 1)≤o.2.1)∧(o.1.2≤v∧v < o.2.2) then (1:Int) else 0) (G:=fun k=>if inK X Y L i k L.length=true then (1:Int) else 0) (x:=y0) (z:=y1) ?_ ?_ ?_
  ·show _=wdZ (nthI X i) (nthI X (i + 1)) x0 x1 * smB _ y0 y1
   rw[←h2,←sN_mul]
   refine sN_congr fun k _=>?_
   by_cases c:inK X Y L i k L.length=true
   ·rw[if_pos c,if_pos c,Int.mul_one]
   ·rw[if_neg c,if_neg c,Int.mul_zero,Int.mul_zero]
  ·intro k hk v v1 v2
   by_cases c:inK X Y L i k L.length=true
   ·rw[if_pos c,if_pos]
    obtain⟨o,ho,a,b⟩:=inK_mem.1 c
    exact⟨o,ho,a,by omega,by omega⟩
   ·rw[if_neg c,if_neg]
    rintro ⟨o,ho,a,b⟩
    refine c (inK_mem.2 ⟨o,ho,a,?_⟩)
    have e1:=asc_gap hY hk (eY o ho).1
    have e2:=asc_gap hY hk (eY o ho).2
    omega
  ·intro v hv
   rw[if_neg]
   rintro ⟨o,ho,a,b⟩
   have:=hv _ (eY o ho).1
   omega
  ·intro v hv
   rw[if_neg]
   rintro ⟨o,ho,a,b⟩
   have:=hv _ (eY o ho).2
   omega
 ·intro i hi u u1 u2
  refine smB_congr fun v=>?_
  unfold cvI
  by_cases c:∃o∈L,(o.1.1≤nthI X i∧nthI X (i + 1)≤o.2.1)∧(o.1.2≤v∧v < o.2.2)
  ·rw[if_pos c,if_pos]
   obtain⟨o,ho,a,b⟩:=c
   exact⟨o,ho,⟨by omega,by omega⟩,b⟩
  ·rw[if_neg c,if_neg]
   rintro ⟨o,ho,a,b⟩
   refine c ⟨o,ho,?_,b⟩
   have e1:=asc_gap hX hi (eX o ho).1
   have e2:=asc_gap hX hi (eX o ho).2
   omega
 ·intro u hu
  have:∀v,cvI L u v=0:=fun v=>by
   unfold cvI
   rw[if_neg]
   rintro ⟨o,ho,a,b⟩
   have:=hu _ (eX o ho).1
   omega
  rw[smB_congr (g':=fun _=>0) this,smB_zero]
 ·intro u hu
  have:∀v,cvI L u v=0:=fun v=>by
   unfold cvI
   rw[if_neg]
   rintro ⟨o,ho,a,b⟩
   have:=hu _ (eX o ho).2
   omega
  rw[smB_congr (g':=fun _=>0) this,smB_zero]
end Go.Proofs.YtidmjdmmpajooaaGreat
namespace Go.Proofs.YtidmjdmmpajooaaGreat
theorem ends_of {L:List Bxx} {o:Bxx} (ho:o∈L):∃j,j < L.length∧bxZ L j=o:=by
 obtain⟨j,hj,rfl⟩:=List.mem_iff_getElem.1 ho
 exact⟨j,hj,by unfold bxZ;rw[List.getD_eq_getElem?_getD,List.getElem?_eq_getElem hj];rfl⟩
theorem exX_mem {L:List Bxx}:∀{a j},j < a→(bxZ L j).1.1∈exX L a∧(bxZ L j).2.1∈exX L a
 | 0,j,h=>by omega
 | a + 1,j,h=>by
  show _∈exX L a ++ [(bxZ L a).1.1] ++ [(bxZ L a).2.1]∧_∈exX L a ++ [(bxZ L a).1.1] ++ [(bxZ L a).2.1]
  by_cases c:j=a
  ·subst c;simp
  ·have ih:=exX_mem (L:=L) (a:=a) (j:=j) (by omega)
   exact⟨List.mem_append_left _ (List.mem_append_left _ ih.1),List.mem_append_left _ (List.mem_append_left _ ih.2)⟩
theorem exY_mem {L:List Bxx}:∀{a j},j < a→(bxZ L j).1.2∈exY L a∧(bxZ L j).2.2∈exY L a
 | 0,j,h=>by omega
 | a + 1,j,h=>by
  show _∈exY L a ++ [(bxZ L a).1.2] ++ [(bxZ L a).2.2]∧_∈exY L a ++ [(bxZ L a).1.2] ++ [(bxZ L a).2.2]
  by_cases c:j=a
  ·subst c;simp
  ·have ih:=exY_mem (L:=L) (a:=a) (j:=j) (by omega)
   exact⟨List.mem_append_left _ (List.mem_append_left _ ih.1),List.mem_append_left _ (List.mem_append_left _ ih.2)⟩
theorem pX_ends {L:List Bxx}:∀o∈L,o.1.1∈pX L∧o.2.1∈pX L:=fun o ho=>by
 obtain⟨j,hj,rfl⟩:=ends_of ho
 exact⟨((axZ_law _).2 _).2 (exX_mem hj).1,((axZ_law _).2 _).2 (exX_mem hj).2⟩
theorem pY_ends {L:List Bxx}:∀o∈L,o.1.2∈pY L∧o.2.2∈pY L:=fun o ho=>by
 obtain⟨j,hj,rfl⟩:=ends_of ho
 exact⟨((axZ_law _).2 _).2 (exY_mem hj).1,((axZ_law _).2 _).2 (exY_mem hj).2⟩
theorem nth_prL {X:List Int} {lo hi:Int}:∀{n i},i < n→nthI (prL X lo hi n) i=wdZ (nthI X i) (nthI X (i + 1)) lo hi
 | 0,i,h=>by omega
 | n + 1,i,h=>by
  show nthI (prL X lo hi n ++ [wdZ (nthI X n) (nthI X (n + 1)) lo hi]) i=_
  have hl:=prL_len X lo hi n
  unfold nthI at *
  by_cases c:i=n
  ·subst c
   rw[List.getD_eq_getElem?_getD,List.getElem?_append_right (by omega),hl,Nat.sub_self];rfl
  ·rw[List.getD_eq_getElem?_getD,List.getElem?_append_left (by omega),←List.getD_eq_getElem?_getD]
   exact nth_prL (X:=X) (lo:=lo) (hi:=hi) (n:=n) (i:=i) (by omega)
theorem smC_app {A B:List Int} {l m:List Pt}:∀{j},j≤l.length→smC A B (l ++ m) j=smC A B l j
 | 0,_=>rfl
 | j + 1,h=>by
  show smC A B (l ++ m) j + _=smC A B l j + _
  rw[smC_app (by omega),ptZ_app_lt (by omega)]
theorem smC_snoc {A B:List Int} {l:List Pt} {c:Pt}:smC A B (l ++ [c]) (l ++ [c]).length=smC A B l l.length + nthI A c.1.toNat * nthI B c.2.toNat:=by
 rw[List.length_append,List.length_singleton]
 show smC A B (l ++ [c]) l.length + nthI A (ptZ (l ++ [c]) l.length).1.toNat * nthI B (ptZ (l ++ [c]) l.length).2.toNat=_
 rw[smC_app (ag _),ptZ_app_eq]
theorem smC_clR {A B X Y:List Int} {L:List Bxx} {l:List Pt} {i:Nat}:∀k,smC A B (clR X Y L l i k) (clR X Y L l i k).length=smC A B l l.length + sN (fun k=>if inK X Y L i k L.length=true then nthI A i * nthI B k else 0) k
 | 0=>by show smC A B l l.length=smC A B l l.length + 0;omega
 | k + 1=>by
  have ih:=smC_clR (A:=A) (B:=B) (X:=X) (Y:=Y) (L:=L) (l:=l) (i:=i) k
  by_cases c:inK X Y L i k L.length=true
  ·rw[show clR X Y L l i (k + 1)=clR X Y L l i k ++ [((i:Int),(k:Int))] from if_pos c,smC_snoc,ih]
   show _=smC A B l l.length + (sN _ k + (if inK X Y L i k L.length=true then nthI A i * nthI B k else 0))
   rw[if_pos c,show ((i:Int),(k:Int)).1.toNat=i from Int.toNat_natCast i,show ((i:Int),(k:Int)).2.toNat=k from Int.toNat_natCast k]
   omega
  ·rw[show clR X Y L l i (k + 1)=clR X Y L l i k from if_neg c,ih]
   show _=smC A B l l.length + (sN _ k + (if inK X Y L i k L.length=true then nthI A i * nthI B k else 0))
   rw[if_neg c];omega
theorem smC_clS {A B X Y:List Int} {L:List Bxx}:∀i,smC A B (clS X Y L i) (clS X Y L i).length=sN (fun i=>sN (fun k=>if inK X Y L i k L.length=true then nthI A i * nthI B k else 0) (Y.length - 1)) i
 | 0=>rfl
 | i + 1=>by
  show smC A B (clR X Y L (clS X Y L i) i (Y.length - 1)) (clR X Y L (clS X Y L i) i (Y.length - 1)).length=sN _ i + sN _ (Y.length - 1)
  rw[smC_clR,smC_clS i]
theorem pgA_ar (L:List Bxx) (ww hh x y:Int):pgA L ww hh x y=arI L x (x + ww) y (y + hh):=by
 rw[←area_sum (axZ_law (exX L L.length)).1 (axZ_law (exY L L.length)).1 pX_ends pY_ends]
 unfold pgA pC
 rw[smC_clS]
 refine sN_congr fun i hi=>sN_congr fun k hk=>?_
 rw[nth_prL hi,nth_prL hk]
 rfl
theorem gX_law {L:List Bxx} {p q:Pt} (h:p.1 < q.1):∀a,(gX L p q a).Pairwise (· < ·)∧(p.1∈gX L p q a∧q.1∈gX L p q a)∧∀j,j < a→(bxZ L j).1.1∈gX L p q a∧(bxZ L j).2.1∈gX L p q a
 | 0=>⟨List.pairwise_cons.2 ⟨fun z hz=>by rw[List.mem_singleton.1 hz];exact h,List.pairwise_singleton _ _⟩,⟨List.mem_cons_self,by show q.1∈[p.1,q.1];simp⟩,fun j hj=>by omega⟩
 | a + 1=>by
  obtain⟨h1,h2,h3⟩:=gX_law (L:=L) h a
  show (putZ (putZ (gX L p q a) (bxZ L a).1.1) (bxZ L a).2.1).Pairwise (· < ·)∧(p.1∈putZ (putZ (gX L p q a) (bxZ L a).1.1) (bxZ L a).2.1∧q.1∈putZ (putZ (gX L p q a) (bxZ L a).1.1) (bxZ L a).2.1)∧∀j,j < a + 1→(bxZ L j).1.1∈putZ (putZ (gX L p q a) (bxZ L a).1.1) (bxZ L a).2.1∧(bxZ L j).2.1∈putZ (putZ (gX L p q a) (bxZ L a).1.1) (bxZ L a).2.1
  refine⟨putZ_asc _ _ (putZ_asc _ _ h1),?_,fun j hj=>?_⟩
  ·simp only[putZ_mem];exact⟨.inr (.inr h2.1),.inr (.inr h2.2)⟩
  ·simp only[putZ_mem]
   by_cases c:j=a
   ·subst c;exact⟨.inr (.inl rfl),.inl rfl⟩
   ·have:=h3 j (by omega)
    exact⟨.inr (.inr this.1),.inr (.inr this.2)⟩
theorem gY_law {L:List Bxx} {p q:Pt} (h:p.2 < q.2):∀a,(gY L p q a).Pairwise (· < ·)∧(p.2∈gY L p q a∧q.2∈gY L p q a)∧∀j,j < a→(bxZ L j).1.2∈gY L p q a∧(bxZ L j).2.2∈gY L p q a
 | 0=>⟨List.pairwise_cons.2 ⟨fun z hz=>by rw[List.mem_singleton.1 hz];exact h,List.pairwise_singleton _ _⟩,⟨List.mem_cons_self,by show q.2∈[p.2,q.2];simp⟩,fun j hj=>by omega⟩
 | a + 1=>by
  obtain⟨h1,h2,h3⟩:=gY_law (L:=L) h a
  show (putZ (putZ (gY L p q a) (bxZ L a).1.2) (bxZ L a).2.2).Pairwise (· < ·)∧(p.2∈putZ (putZ (gY L p q a) (bxZ L a).1.2) (bxZ L a).2.2∧q.2∈putZ (putZ (gY L p q a) (bxZ L a).1.2) (bxZ L a).2.2)∧∀j,j < a + 1→(bxZ L j).1.2∈putZ (putZ (gY L p q a) (bxZ L a).1.2) (bxZ L a).2.2∧(bxZ L j).2.2∈putZ (putZ (gY L p q a) (bxZ L a).1.2) (bxZ L a).2.2
  refine⟨putZ_asc _ _ (putZ_asc _ _ h1),?_,fun j hj=>?_⟩
  ·simp only[putZ_mem];exact⟨.inr (.inr h2.1),.inr (.inr h2.2)⟩
  ·simp only[putZ_mem]
   by_cases c:j=a
   ·subst c;exact⟨.inr (.inl rfl),.inl rfl⟩
   ·have:=h3 j (by omega)
    exact⟨.inr (.inr this.1),.inr (.inr this.2)⟩
theorem gRw_sN (X Y:List Int) (L:List Bxx) (p q:Pt) (i:Nat):∀k,gRw X Y L p q i k=sN (fun k=>gcZ X Y L p q i k) k
 | 0=>rfl
 | k + 1=>by show gRw X Y L p q i k + _=sN _ k + _;rw[gRw_sN X Y L p q i k]
theorem gSm_sN (X Y:List Int) (L:List Bxx) (p q:Pt):∀i,gSm X Y L p q i=sN (fun i=>sN (fun k=>gcZ X Y L p q i k) (Y.length - 1)) i
 | 0=>rfl
 | i + 1=>by show gSm X Y L p q i + gRw X Y L p q i (Y.length - 1)=sN _ i + sN _ _;rw[gSm_sN X Y L p q i,gRw_sN]
theorem wd_in {a b x z:Int} (h1:x≤a) (h2:b≤z) (h:a≤b):wdZ a b x z=b - a:=by unfold wdZ;omega
theorem wd_out {a b x z:Int} (h:b≤x∨z≤a):wdZ a b x z=0:=by unfold wdZ;omega
theorem gpZ_ar (L:List Bxx) {p q:Pt} (h1:p.1 < q.1) (h2:p.2 < q.2):gpZ L p q=arI L p.1 q.1 p.2 q.2:=by
 have lx:=gX_law (L:=L) h1 L.length
 have ly:=gY_law (L:=L) h2 L.length
 rw[←area_sum lx.1 ly.1 (fun o ho=>by obtain⟨j,hj,rfl⟩:=ends_of ho;exact lx.2.2 j hj) (fun o ho=>by obtain⟨j,hj,rfl⟩:=ends_of ho;exact ly.2.2 j hj)]
 unfold gpZ
 rw[gSm_sN]
 generalize gX L p q L.length=X at lx
 generalize gY L p q L.length=Y at ly
 refine sN_congr fun i hi=>sN_congr fun k hk=>?_
 have a1:=asc_gap lx.1 (i:=i) (by omega) lx.2.1.1
 have a2:=asc_gap lx.1 (i:=i) (by omega) lx.2.1.2
 have b1:=asc_gap ly.1 (i:=k) (by omega) ly.2.1.1
 have b2:=asc_gap ly.1 (i:=k) (by omega) ly.2.1.2
 have g:∀(Z:List Int) t,(ht:t < Z.length)→nthI Z t=Z[t]:=fun Z t ht=>by unfold nthI;rw[List.getD_eq_getElem?_getD,List.getElem?_eq_getElem ht];rfl
 have a3:nthI X i≤nthI X (i + 1):=by rw[g X i (by omega),g X (i + 1) (by omega)];exact Int.le_of_lt (List.pairwise_iff_getElem.1 lx.1 i (i + 1) (by omega) (by omega) (by omega))
 have b3:nthI Y k≤nthI Y (k + 1):=by rw[g Y k (by omega),g Y (k + 1) (by omega)];exact Int.le_of_lt (List.pairwise_iff_getElem.1 ly.1 k (k + 1) (by omega) (by omega) (by omega))
 by_cases c:inK X Y L i k L.length=true
 ·rw[if_pos c]
  by_cases d:nthI X i < p.1∨q.1 < nthI X (i + 1)∨nthI Y k < p.2∨q.2 < nthI Y (k + 1)
  ·rw[gc_out d]
   by_cases e:nthI X i < p.1∨q.1 < nthI X (i + 1)
   ·rw[wd_out (show nthI X (i + 1)≤p.1∨q.1≤nthI X i by omega),Int.zero_mul]
   ·rw[wd_out (a:=nthI Y k) (show nthI Y (k + 1)≤p.2∨q.2≤nthI Y k by omega),Int.mul_zero]
  ·rw[gc_in d c,wd_in (by omega) (by omega) a3,wd_in (by omega) (by omega) b3]
 ·rw[if_neg c,gc_no c]
theorem smI_le {g:Int→Int} {c:Int} (h:∀u,g u≤c) (a:Int):∀n:Nat,smI g a n≤n * c
 | 0=>by show (0:Int)≤((0:Nat):Int) * c;simp
 | n + 1=>by
  have:=smI_le h a n
  have h2:=h (a + n)
  show smI g a n + g (a + n)≤((n + 1:Nat):Int) * c
  rw[Int.natCast_add,Int.add_mul,show ((1:Nat):Int) * c=c by simp]
  omega
theorem arI_le (L:List Bxx) {ww hh:Int} (h1:0≤ww) (h2:0≤hh) (x y:Int):arI L x (x + ww) y (y + hh)≤ww * hh:=by
 classical
 have a:∀u,smB (fun v=>cvI L u v) y (y + hh)≤hh:=fun u=>by
  unfold smB
  have:=smI_le (g:=fun v=>cvI L u v) (c:=1) (fun v=>by unfold cvI;split<;>omega) y (y + hh - y).toNat
  omega
 unfold arI
 have:=smI_le (g:=fun u=>smB (fun v=>cvI L u v) y (y + hh)) (c:=hh) a x (x + ww - x).toNat
 unfold smB at this ⊢
 rw[show (((x + ww - x).toNat:Nat):Int)=ww by omega] at this
 exact this
theorem pgA_le {L:List Bxx} {p q:Pt} {ww hh:Int} (h:wnE L p q ww hh=0):∀x y,pgA L ww hh x y≤ww * hh:=fun x y=>by
 rw[pgA_ar]
 have:¬ (ww < 1∨hh < 1):=fun c=>by
  unfold wnE at h
  split at h
  ·split at h
   ·first|cases h|(rw[if_pos c] at h;cases h)
   ·rename_i h2;exact absurd h h2
  ·rename_i h2;exact absurd h h2
 exact arI_le L (by omega) (by omega) x y
theorem win_same (L:List Bxx) (p q:Pt) (ww hh:Int):winP L p q ww hh=winR L p q ww hh:=by
 by_cases h:wnE L p q ww hh=0
 ·have c:¬ (ww < 1∨hh < 1)∧¬ (q.1 - p.1 < ww∨q.2 - p.2 < hh):=by
   have h':=h
   unfold wnE at h'
   split at h'
   ·split at h'
    ·split at h'
     ·cases h'
     ·split at h'
      ·cases h'
      ·rename_i a b;exact⟨a,b⟩
    ·rename_i h2;exact absurd h' h2
   ·rename_i h2;exact absurd h' h2
  have e:pgA L ww hh=gpA L ww hh:=funext fun x=>funext fun y=>by
   rw[pgA_ar]
   unfold gpA
   rw[gpZ_ar L (p:=(x,y)) (q:=(x + ww,y + hh)) (by show x < x + ww;omega) (by show y < y + hh;omega)]
  rw[show winP L p q ww hh=wsS (pgA L ww hh) ww hh (pPX L p q ww) (pPY L p q hh) (pPX L p q ww).length from if_pos h,win_ok h,e,
   show pPX L p q ww=rfX L p q ww from plK2_crt (by omega) (by omega) (fun x=>(axZ_law _).2 x),show pPY L p q hh=rfY L p q hh from plK2_crt (by omega) (by omega) (fun x=>(axZ_law _).2 x)]
 ·rw[show winP L p q ww hh=(((0,0),(0,0)),0) from if_neg h,win_err h]
end Go.Proofs.YtidmjdmmpajooaaGreat
