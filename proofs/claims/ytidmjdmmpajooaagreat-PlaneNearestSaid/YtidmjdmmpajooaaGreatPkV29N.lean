/-
  The numbers between which no edges cross or end, as the program's four loops make them: plain.
-/
import Derived.Test.YtidmjdmmpajooaaGreatPkV24N
import Derived.Test.YtidmjdmmpajooaaGreatPlGN
import Derived.Test.YtidmjdmmpajooaaGreatPkV27N
set_option linter.unusedSimpArgs false
set_option linter.unusedVariables false
namespace Go.Proofs.YtidmjdmmpajooaaGreat
def lsZ (P:List (List Edg)) (i:Nat):List Edg:=P.getD i []
theorem qy {P:List (List Edg)} {i:Nat} (h:i < P.length):P[i]?=some (lsZ P i):=by unfold lsZ;rw[List.getD_eq_getElem?_getD,List.getElem?_eq_getElem h];rfl
def crF (e f:Edg):List Rat:=if crB e f=true then [crX e f] else []
def sb1 (P:List (List Edg)) (i:Nat):List Rat:=(List.range i).flatMap fun j=>(lsZ P j).flatMap fun e=>seL e (P.drop (j + 1))
def sb2 (P:List (List Edg)) (i a:Nat):List Rat:=sb1 P i ++ ((lsZ P i).take a).flatMap fun e=>seL e (P.drop (i + 1))
def sb3 (P:List (List Edg)) (i a b:Nat):List Rat:=sb2 P i a ++ (([((edZ (lsZ P i) a).1.1:Rat),((edZ (lsZ P i) a).2.1:Rat)]) ++ ((P.drop (i + 1)).take b).flatMap (crL (edZ (lsZ P i) a)))
def sb4 (P:List (List Edg)) (i a b c:Nat):List Rat:=sb3 P i a b ++ ((lsZ (P.drop (i + 1)) b).take c).flatMap (crF (edZ (lsZ P i) a))
theorem sb1_succ (P:List (List Edg)) (i:Nat):sb1 P (i + 1)=sb2 P i (lsZ P i).length:=by
 unfold sb1 sb2
 rw[List.range_succ,List.flatMap_append,List.take_length]
 rw[show List.flatMap (fun j=>(lsZ P j).flatMap fun e=>seL e (P.drop (j + 1))) [i]=(lsZ P i).flatMap (fun e=>seL e (P.drop (i + 1))) from by simp]
 rfl
theorem sb2_zero (P:List (List Edg)) (i:Nat):sb2 P i 0=sb1 P i:=by unfold sb2;rw[List.take_zero,List.flatMap_nil,List.append_nil]
theorem sb2_succ {P:List (List Edg)} {i a:Nat} (ha:a < (lsZ P i).length):sb2 P i (a + 1)=sb3 P i a (P.drop (i + 1)).length:=by
 unfold sb3 sb2
 rw[List.take_add_one,ja2 ha,List.flatMap_append,List.take_length,←List.append_assoc]
 rw[show List.flatMap (fun e=>seL e (P.drop (i + 1))) (some (edZ (lsZ P i) a)).toList=seL (edZ (lsZ P i) a) (P.drop (i + 1)) from by simp]
 rfl
theorem sb3_zero (P:List (List Edg)) (i a:Nat):sb3 P i a 0=sb2 P i a ++ [((edZ (lsZ P i) a).1.1:Rat)] ++ [((edZ (lsZ P i) a).2.1:Rat)]:=by
 unfold sb3
 rw[List.take_zero,List.flatMap_nil,List.append_nil,List.append_assoc]
 rfl
theorem sb3_succ {P:List (List Edg)} {i a b:Nat} (hb:b < (P.drop (i + 1)).length):sb3 P i a (b + 1)=sb4 P i a b (lsZ (P.drop (i + 1)) b).length:=by
 unfold sb4 sb3
 rw[List.take_add_one,qy hb,List.flatMap_append,List.take_length,List.append_assoc,List.append_assoc]
 rw[show List.flatMap (crL (edZ (lsZ P i) a)) (some (lsZ (P.drop (i + 1)) b)).toList=(lsZ (P.drop (i + 1)) b).flatMap (crF (edZ (lsZ P i) a)) from by simp[crL];rfl]
theorem sb4_zero (P:List (List Edg)) (i a b:Nat):sb4 P i a b 0=sb3 P i a b:=by unfold sb4;rw[List.take_zero,List.flatMap_nil,List.append_nil]
theorem sb4_succ {P:List (List Edg)} {i a b c:Nat} (hc:c < (lsZ (P.drop (i + 1)) b).length):sb4 P i a b (c + 1)=sb4 P i a b c ++ crF (edZ (lsZ P i) a) (edZ (lsZ (P.drop (i + 1)) b) c):=by
 unfold sb4
 rw[List.take_add_one,ja2 hc,List.flatMap_append,List.append_assoc]
 rw[show List.flatMap (crF (edZ (lsZ P i) a)) (some (edZ (lsZ (P.drop (i + 1)) b) c)).toList=crF (edZ (lsZ P i) a) (edZ (lsZ (P.drop (i + 1)) b) c) from by simp]
theorem sb4_yes {P:List (List Edg)} {i a b c:Nat} (hc:c < (lsZ (P.drop (i + 1)) b).length) (h:crB (edZ (lsZ P i) a) (edZ (lsZ (P.drop (i + 1)) b) c)=true):sb4 P i a b (c + 1)=sb4 P i a b c ++ [crX (edZ (lsZ P i) a) (edZ (lsZ (P.drop (i + 1)) b) c)]:=by
 rw[sb4_succ hc];unfold crF;rw[if_pos h]
theorem sb4_no {P:List (List Edg)} {i a b c:Nat} (hc:c < (lsZ (P.drop (i + 1)) b).length) (h:crB (edZ (lsZ P i) a) (edZ (lsZ (P.drop (i + 1)) b) c)=false):sb4 P i a b (c + 1)=sb4 P i a b c:=by
 rw[sb4_succ hc];unfold crF;rw[h];simp
theorem xc (P:List (List Edg)):sb1 P P.length=qr P:=by
 suffices h:∀(P Q:List (List Edg)),(List.range P.length).flatMap (fun j=>(lsZ P j).flatMap fun e=>seL e (P.drop (j + 1)))=qr P from h P []
 intro P
 induction P with
 | nil=>intro _;rfl
 | cons p r ih=>
  intro Q
  rw[List.length_cons,List.range_succ_eq_map,List.flatMap_cons,List.flatMap_map]
  have h:=ih []
  show p.flatMap (fun e=>seL e r) ++ _=qr (p ::r)
  rw[show qr (p ::r)=p.flatMap (fun e=>seL e r) ++ qr r from rfl,←h]
  rfl
def jt (P:List (List Edg)):Nat:=(P.map List.length).sum
theorem li (p:List Edg) (r:List (List Edg)):jt (p ::r)=p.length + jt r:=by unfold jt;rw[List.map_cons,List.sum_cons]
theorem totE_drop (P:List (List Edg)):∀i,jt (P.drop i)≤jt P:=by
 induction P with
 | nil=>intro i;rw[List.drop_nil];exact ag _
 | cons p r ih=>
  intro i
  cases i with
  | zero=>exact ag _
  | succ i=>rw[List.drop_succ_cons,li];have:=ih i;omega
theorem crL_len (e:Edg) (q:List Edg):(crL e q).length≤q.length:=by
 unfold crL
 induction q with
 | nil=>exact ag _
 | cons f r ih=>
  rw[List.flatMap_cons,List.length_append,List.length_cons]
  split
  ·rw[List.length_singleton];omega
  ·rw[List.length_nil];omega
theorem crLs_len (e:Edg) (r:List (List Edg)):(r.flatMap (crL e)).length≤jt r:=by
 induction r with
 | nil=>exact ag _
 | cons q r ih=>rw[List.flatMap_cons,List.length_append,li];have:=crL_len e q;omega
theorem se_len (e:Edg) (r:List (List Edg)):(seL e r).length≤2 + jt r:=by
 unfold seL
 rw[List.length_append]
 have:=crLs_len e r
 show 2 + _≤_
 omega
theorem ja3 {α β:Type} {f:α→List β} {K:Nat} (h:∀x,(f x).length≤K):∀l:List α,(l.flatMap f).length≤l.length * K
 | []=>by simp
 | x ::r=>by rw[List.flatMap_cons,List.length_append,List.length_cons,Nat.succ_mul];have:=h x;have:=ja3 h r;omega
theorem slb_len (P:List (List Edg)):(qr P).length≤jt P * (2 + jt P):=by
 suffices h:∀(P:List (List Edg)) (K:Nat),jt P≤K→(qr P).length≤jt P * (2 + K) from h P _ (ag _)
 intro P
 induction P with
 | nil=>intro K _;show 0≤_;omega
 | cons p r ih=>
  intro K hK
  rw[li] at hK ⊢
  rw[show qr (p ::r)=p.flatMap (fun e=>seL e r) ++ qr r from rfl,List.length_append,Nat.add_mul]
  have h1:=ih K (by omega)
  have h2:=ja3 (f:=fun e=>seL e r) (K:=2 + K) (fun e=>by have:=se_len e r;omega) p
  omega
theorem zo {α:Type} (l:List α) (a:Nat):(l.take a).length≤l.length:=by rw[List.length_take];omega
theorem ls_len (P:List (List Edg)) (i:Nat):(lsZ P i).length≤jt P:=by
 induction P generalizing i with
 | nil=>unfold lsZ;simp
 | cons p r ih=>
  rw[li]
  cases i with
  | zero=>show p.length≤_;omega
  | succ i=>have:=ih i;show (lsZ r i).length≤_;omega
theorem sb1_le (P:List (List Edg)) (hT:jt P≤24):∀i,(sb1 P i).length≤624:=fun i=>by
 by_cases hi:i≤P.length
 ·have h:=slb_len P
  rw[←xc] at h
  have h2:(sb1 P i).length≤(sb1 P P.length).length:=by
   unfold sb1
   rw[show P.length=i + (P.length - i) by omega,List.range_add,List.flatMap_append,List.length_append]
   omega
  have h3:jt P * (2 + jt P)≤24 * (2 + 24):=Nat.mul_le_mul hT (by omega)
  omega
 ·have e:sb1 P i=sb1 P P.length:=by
   unfold sb1
   rw[show i=P.length + (i - P.length) by omega,List.range_add,List.flatMap_append]
   rw[show (List.map (fun x=>P.length + x) (List.range (i - P.length))).flatMap (fun j=>(lsZ P j).flatMap fun e=>seL e (P.drop (j + 1)))=[] from by
    rw[List.flatMap_eq_nil_iff]
    intro j hj
    obtain⟨x,_,rfl⟩:=List.mem_map.1 hj
    unfold lsZ
    rw[List.getD_eq_getElem?_getD,List.getElem?_eq_none (by omega)]
    rfl]
   rw[List.append_nil]
  rw[e,xc]
  have h:=slb_len P
  have h3:jt P * (2 + jt P)≤24 * (2 + 24):=Nat.mul_le_mul hT (by omega)
  omega
theorem sb4_le (P:List (List Edg)) (hT:jt P≤24) (i a b c:Nat):(sb4 P i a b c).length≤2000∧(sb3 P i a b).length≤2000∧(sb2 P i a).length≤2000:=by
 have h1:=sb1_le P hT i
 have hl:=ls_len P i
 have hd:=totE_drop P (i + 1)
 have h2:(((lsZ P i).take a).flatMap fun e=>seL e (P.drop (i + 1))).length≤624:=by
  have:=ja3 (f:=fun e=>seL e (P.drop (i + 1))) (K:=26) (fun e=>by have:=se_len e (P.drop (i + 1));omega) ((lsZ P i).take a)
  have h3:=zo (lsZ P i) a
  have h4:((lsZ P i).take a).length * 26≤24 * 26:=Nat.mul_le_mul (by omega) (ag _)
  omega
 have h3:(((P.drop (i + 1)).take b).flatMap (crL (edZ (lsZ P i) a))).length≤24:=by
  have h:=crLs_len (edZ (lsZ P i) a) (P.drop (i + 1))
  have e:(P.drop (i + 1)).flatMap (crL (edZ (lsZ P i) a))=((P.drop (i + 1)).take b).flatMap (crL (edZ (lsZ P i) a)) ++ ((P.drop (i + 1)).drop b).flatMap (crL (edZ (lsZ P i) a)):=by rw[←List.flatMap_append,List.take_append_drop]
  rw[e,List.length_append] at h
  omega
 have h4:(((lsZ (P.drop (i + 1)) b).take c).flatMap (crF (edZ (lsZ P i) a))).length≤24:=by
  have:=ja3 (f:=crF (edZ (lsZ P i) a)) (K:=1) (fun f=>by unfold crF;split<;>simp) ((lsZ (P.drop (i + 1)) b).take c)
  have h5:=zo (lsZ (P.drop (i + 1)) b) c
  have h6:=ls_len (P.drop (i + 1)) b
  omega
 unfold sb4 sb3 sb2
 simp only[List.length_append,List.length_cons,List.length_nil]
 omega
end Go.Proofs.YtidmjdmmpajooaaGreat
namespace Go.Proofs.YtidmjdmmpajooaaGreat
open Go.RowKit Dg
theorem cw.push2 {α:Type} {base size:Nat} {T:TypeId} {R:World→List Value→α→Prop} {w w':World} {l:List α} (hR:ir R) {css:List (List Value)} (h1:css.length=l.length) (h2:∀cs∈css,cs.length=size) (h3:∀(i:Nat) (cs:List Value) (x:α),css[i]?=some cs→l[i]?=some x→R w cs x) {v':Value} {cs ds:List Value} {x y:α}
  (hl:cs.length=size) (hx:R w cs x) (hl':ds.length=size) (hy:R w ds y) (hown:w'.ownsRow base T size v' (l.length + 2) (css.flatten ++ (cs ++ ds))) (hk:aw w w'):cw base T size R w' v' (l ++ [x] ++ [y]):=by
 refine⟨css ++ [cs] ++ [ds],by simp[h1],?_,?_,?_⟩
 ·intro c hc
  rcases List.mem_append.1 hc with h|h
  ·rcases List.mem_append.1 h with h|h
   ·exact h2 c h
   ·simp at h;rw[h];exact hl
  ·simp at h;rw[h];exact hl'
 ·intro i c z hc hz
  by_cases hi:i < l.length
  ·rw[List.append_assoc,List.getElem?_append_left (by omega)] at hc
   rw[List.append_assoc,List.getElem?_append_left hi] at hz
   exact hR _ _ _ _ (h3 i c z hc hz) hk
  ·rw[List.append_assoc,List.getElem?_append_right (by omega),h1] at hc
   rw[List.append_assoc,List.getElem?_append_right (by omega)] at hz
   match hj:i - l.length with
   | 0=>
    rw[hj] at hc hz
    simp at hc hz
    subst hc hz
    exact hR _ _ _ _ hx hk
   | 1=>
    rw[hj] at hc hz
    simp at hc hz
    subst hc hz
    exact hR _ _ _ _ hy hk
   | j + 2=>
    rw[hj] at hc
    simp at hc
 ·simpa [List.append_assoc] using hown
end Go.Proofs.YtidmjdmmpajooaaGreat
namespace Go.Proofs.YtidmjdmmpajooaaGreat
theorem cp_snoc (x y:Rat):∀l:List Rat,cpQ (l ++ [x,y])=if x=y then cpQ (l ++ [x]) else cpQ (l ++ [x]) ++ [y]
 | []=>by
  show (if x=y then cpQ [y] else x ::cpQ [y])=if x=y then cpQ [x] else cpQ [x] ++ [y]
  split
  ·rename_i h;rw[h]
  ·rfl
 | [a]=>by
  show (if a=x then (if x=y then cpQ [y] else x ::cpQ [y]) else a ::(if x=y then cpQ [y] else x ::cpQ [y]))=if x=y then (if a=x then cpQ [x] else a ::cpQ [x]) else (if a=x then cpQ [x] else a ::cpQ [x]) ++ [y]
  by_cases h1:a=x<;>by_cases h2:x=y<;>simp[h1,h2,cpQ]
 | a ::b ::r=>by
  have ih:=cp_snoc x y (b ::r)
  show (if a=b then cpQ (b ::(r ++ [x,y])) else a ::cpQ (b ::(r ++ [x,y])))=if x=y then (if a=b then cpQ (b ::(r ++ [x])) else a ::cpQ (b ::(r ++ [x]))) else (if a=b then cpQ (b ::(r ++ [x])) else a ::cpQ (b ::(r ++ [x]))) ++ [y]
  rw[show b ::(r ++ [x,y])=b ::r ++ [x,y] from rfl,ih]
  by_cases h1:a=b<;>by_cases h2:x=y<;>simp[h1,h2]
theorem ja1 {L:List Rat} {i:Nat} (h1:1≤i) (h2:i < L.length):cpQ (L.take (i + 1))=if bj L (i - 1)=bj L i then cpQ (L.take i) else cpQ (L.take i) ++ [bj L i]:=by
 obtain⟨m,rfl⟩:∃m,i=m + 1:=⟨i - 1,by omega⟩
 have e1:L.take (m + 1)=L.take m ++ [bj L m]:=by rw[List.take_add_one,ia (by omega)];rfl
 have e2:L.take (m + 1 + 1)=L.take m ++ [bj L m,bj L (m + 1)]:=by rw[List.take_add_one,ia h2,e1,List.append_assoc];rfl
 rw[e2,cp_snoc,e1,Nat.add_sub_cancel]
theorem cp_len:∀l:List Rat,(cpQ l).length≤l.length
 | []=>ag _
 | [_]=>ag _
 | a ::b ::r=>by
  have ih:=cp_len (b ::r)
  show (if a=b then cpQ (b ::r) else a ::cpQ (b ::r)).length≤_
  split
  ·rw[List.length_cons];omega
  ·rw[List.length_cons,List.length_cons];omega
theorem cp_same:∀(i:Nat) {L:List Rat},i≤L.length→(∀j,1≤j→j < i→¬ bj L j=bj L (j - 1))→cpQ (L.take i)=L.take i
 | 0,L,_,_=>by rw[List.take_zero];rfl
 | 1,L,h,_=>by
  rw[show L.take 1=[bj L 0] from by rw[List.take_add_one,ia (by omega),List.take_zero];rfl];rfl
 | i + 2,L,h,hn=>by
  rw[ja1 (by omega) (by omega),if_neg (fun e=>hn (i + 1) (by omega) (by omega) (by rw[Nat.add_sub_cancel] at *;exact e.symm)),cp_same (i + 1) (by omega) (fun j h1 h2=>hn j h1 (by omega))]
  rw[List.take_add_one (i:=i + 1),ia (by omega)];rfl
def CpS (L M:List Rat) (c i:Nat):Prop:=M.length=L.length∧M.take c=cpQ (L.take i)∧1≤i∧c≤i - 1∧i≤L.length∧∀j,i - 1≤j→bj M j=bj L j
theorem CpS.start {L:List Rat} {k:Nat} (h1:1≤k) (h2:k < L.length) (hn:∀j,1≤j→j < k→¬ bj L j=bj L (j - 1)) (he:bj L k=bj L (k - 1)):CpS L L k (k + 1):=
 ⟨rfl,by rw[ja1 h1 h2,if_pos he.symm,cp_same k (by omega) hn],by omega,by omega,by omega,fun _ _=>rfl⟩
theorem CpS.same {L M:List Rat} {c i:Nat} (h:CpS L M c i) (hi:i < L.length) (he:bj L i=bj L (i - 1)):CpS L M c (i + 1):=by
 obtain⟨a1,a2,a3,a4,a5,a6⟩:=h
 exact⟨a1,by rw[ja1 a3 hi,if_pos he.symm];exact a2,by omega,by omega,by omega,fun j hj=>a6 j (by omega)⟩
theorem CpS.diff {L M:List Rat} {c i:Nat} (h:CpS L M c i) (hi:i < L.length) (he:¬ bj L i=bj L (i - 1)):CpS L (M.set c (bj L i)) (c + 1) (i + 1):=by
 obtain⟨a1,a2,a3,a4,a5,a6⟩:=h
 refine⟨by rw[List.length_set];exact a1,?_,by omega,by omega,by omega,fun j hj=>?_⟩
 ·rw[ja1 a3 hi,if_neg (fun e=>he e.symm),←a2,List.take_add_one,List.getElem?_set_self (by omega),List.take_set_of_le (by omega)]
  rfl
 ·rw[←a6 j (by omega)]
  unfold bj
  simp only[List.getD_eq_getElem?_getD]
  rw[List.getElem?_set_ne (by omega)]
theorem CpS.fin {L M:List Rat} {c:Nat} (h:CpS L M c L.length):M.take c=cpQ L:=by rw[h.2.1,List.take_length]
theorem CpS.at {L M:List Rat} {c i:Nat} (h:CpS L M c i):bj M i=bj L i∧bj M (i - 1)=bj L (i - 1):=⟨h.2.2.2.2.2 i (by omega),h.2.2.2.2.2 (i - 1) (ag _)⟩
end Go.Proofs.YtidmjdmmpajooaaGreat
