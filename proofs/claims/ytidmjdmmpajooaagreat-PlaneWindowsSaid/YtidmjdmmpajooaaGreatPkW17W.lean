/-
  Windows: the search, step by step; its error; the ends of boxes.
-/
import Derived.Test.YtidmjdmmpajooaaGreatWn2W
import Derived.Test.YtidmjdmmpajooaaGreatPkW11W
import Derived.Test.YtidmjdmmpajooaaGreatSortI
import Derived.Lib.SlicesCompact
import Derived.Shelf.Sort.Plain
import Derived.Shelf.Slices.In.SortNone
import Derived.Shelf.Slices.CompactI
set_option linter.unusedSimpArgs false
set_option linter.unusedVariables false
namespace Go.Proofs.YtidmjdmmpajooaaGreat
abbrev WSt:=Bxx × Int
def w0S:WSt:=(((0,0),(0,0)), -1)
def stW (A:Int→Int→Int) (ww hh x y:Int) (s:WSt):WSt:=if s.2 < A x y then (((x,y),(x + ww,y + hh)),A x y) else s
def wsR (A:Int→Int→Int) (ww hh:Int) (X Y:List Int) (i:Nat) (s:WSt):Nat→WSt
 | 0=>s
 | k + 1=>stW A ww hh (nthI X i) (nthI Y k) (wsR A ww hh X Y i s k)
def wsS (A:Int→Int→Int) (ww hh:Int) (X Y:List Int):Nat→WSt
 | 0=>w0S
 | i + 1=>wsR A ww hh X Y i (wsS A ww hh X Y i) Y.length
theorem st_yes {A:Int→Int→Int} {ww hh x y:Int} {s:WSt} (h:s.2 < A x y):stW A ww hh x y s=(((x,y),(x + ww,y + hh)),A x y):=if_pos h
theorem st_no {A:Int→Int→Int} {ww hh x y:Int} {s:WSt} (h:¬ s.2 < A x y):stW A ww hh x y s=s:=if_neg h
def exX (L:List Bxx):Nat→List Int
 | 0=>[]
 | a + 1=>exX L a ++ [(bxZ L a).1.1] ++ [(bxZ L a).2.1]
def exY (L:List Bxx):Nat→List Int
 | 0=>[]
 | a + 1=>exY L a ++ [(bxZ L a).1.2] ++ [(bxZ L a).2.2]
theorem exX_len (L:List Bxx):∀a,(exX L a).length=2 * a
 | 0=>rfl
 | a + 1=>by show (exX L a ++ [_] ++ [_]).length=_;rw[List.length_append,List.length_append,exX_len L a];simp;omega
theorem exY_len (L:List Bxx):∀a,(exY L a).length=2 * a
 | 0=>rfl
 | a + 1=>by show (exY L a ++ [_] ++ [_]).length=_;rw[List.length_append,List.length_append,exY_len L a];simp;omega
def wnE (L:List Bxx) (p q:Pt) (ww hh:Int):Int:=if bxsE L=0 then (if bxE (p,q)=0 then (if ww < 1∨hh < 1 then 1 else if q.1 - p.1 < ww∨q.2 - p.2 < hh then 5 else 0) else bxE (p,q)) else bxsE L
def rfX (L:List Bxx) (p q:Pt) (ww:Int):List Int:=crtK (exX L L.length) ww p.1 q.1
def rfY (L:List Bxx) (p q:Pt) (hh:Int):List Int:=crtK (exY L L.length) hh p.2 q.2
def gpA (L:List Bxx) (ww hh x y:Int):Int:=gpZ L (x,y) (x + ww,y + hh)
def winR (L:List Bxx) (p q:Pt) (ww hh:Int):WSt:=if wnE L p q ww hh=0 then wsS (gpA L ww hh) ww hh (rfX L p q ww) (rfY L p q hh) (rfX L p q ww).length else (((0,0),(0,0)),0)
theorem we_1 {L:List Bxx} {p q:Pt} {ww hh:Int} (h:¬ bxsE L=0):wnE L p q ww hh=bxsE L:=if_neg h
theorem we_2 {L:List Bxx} {p q:Pt} {ww hh:Int} (h:bxsE L=0) (h2:¬ bxE (p,q)=0):wnE L p q ww hh=bxE (p,q):=(if_pos h).trans (if_neg h2)
theorem we_3 {L:List Bxx} {p q:Pt} {ww hh:Int} (h:bxsE L=0) (h2:bxE (p,q)=0) (h3:ww < 1∨hh < 1):wnE L p q ww hh=1:=(if_pos h).trans ((if_pos h2).trans (if_pos h3))
theorem we_4 {L:List Bxx} {p q:Pt} {ww hh:Int} (h:bxsE L=0) (h2:bxE (p,q)=0) (h3:¬ (ww < 1∨hh < 1)) (h4:q.1 - p.1 < ww∨q.2 - p.2 < hh):wnE L p q ww hh=5:=(if_pos h).trans ((if_pos h2).trans ((if_neg h3).trans (if_pos h4)))
theorem we_5 {L:List Bxx} {p q:Pt} {ww hh:Int} (h:bxsE L=0) (h2:bxE (p,q)=0) (h3:¬ (ww < 1∨hh < 1)) (h4:¬ (q.1 - p.1 < ww∨q.2 - p.2 < hh)):wnE L p q ww hh=0:=(if_pos h).trans ((if_pos h2).trans ((if_neg h3).trans (if_neg h4)))
theorem win_err {L:List Bxx} {p q:Pt} {ww hh:Int} (h:¬ wnE L p q ww hh=0):winR L p q ww hh=(((0,0),(0,0)),0):=if_neg h
theorem win_ok {L:List Bxx} {p q:Pt} {ww hh:Int} (h:wnE L p q ww hh=0):winR L p q ww hh=wsS (gpA L ww hh) ww hh (rfX L p q ww) (rfY L p q hh) (rfX L p q ww).length:=if_pos h
theorem crt_in {E:List Int} {sz lo hi:Int} (h0:0 < sz) (h1:lo + sz≤hi) {z:Int} (hz:z∈crtK E sz lo hi):lo≤z∧z + sz≤hi:=by
 rcases ((crt_mem h0 h1).2 z).1 hz with rfl|rfl|⟨e,_,_,h⟩
 ·omega
 ·omega
 ·exact h
theorem lb_wn {L:List Bxx} (h:bxsE L=0) (j:Nat):(Wn 2097152 (bxZ L j).1.1∧Wn 2097152 (bxZ L j).1.2)∧(Wn 2097152 (bxZ L j).2.1∧Wn 2097152 (bxZ L j).2.2):=by
 by_cases hj:j < L.length
 ·have:=(bxs_ok h).2 _ (bxZ_mem hj)
  exact⟨⟨this.1.1.mono (by decide),this.1.2.mono (by decide)⟩,⟨this.2.1.mono (by decide),this.2.2.mono (by decide)⟩⟩
 ·have e:bxZ L j=((0,0),(0,0)):=by unfold bxZ;rw[List.getD_eq_getElem?_getD,List.getElem?_eq_none (by omega)];rfl
  rw[e]
  exact⟨⟨Wn.lit (by decide) (by decide),Wn.lit (by decide) (by decide)⟩,⟨Wn.lit (by decide) (by decide),Wn.lit (by decide) (by decide)⟩⟩
theorem exX_bd {L:List Bxx} (h:bxsE L=0):∀a,∀x∈exX L a,Wn 2097152 x
 | 0,x,hx=>by cases hx
 | a + 1,x,hx=>by
  rcases List.mem_append.1 hx with hx|hx
  ·rcases List.mem_append.1 hx with hx|hx
   ·exact exX_bd h a x hx
   ·rw[List.mem_singleton.1 hx];exact (lb_wn h a).1.1
  ·rw[List.mem_singleton.1 hx];exact (lb_wn h a).2.1
theorem exY_bd {L:List Bxx} (h:bxsE L=0):∀a,∀x∈exY L a,Wn 2097152 x
 | 0,x,hx=>by cases hx
 | a + 1,x,hx=>by
  rcases List.mem_append.1 hx with hx|hx
  ·rcases List.mem_append.1 hx with hx|hx
   ·exact exY_bd h a x hx
   ·rw[List.mem_singleton.1 hx];exact (lb_wn h a).1.2
  ·rw[List.mem_singleton.1 hx];exact (lb_wn h a).2.2
theorem crt_len (E:List Int) (sz lo hi:Int):1≤(crtK E sz lo hi).length∧(crtK E sz lo hi).length≤2 + 2 * E.length:=by
 rw[crt_eq]
 have a:=putZ_len (hi - sz) (crA E sz lo hi E.length)
 have b:=crA_len E sz lo hi E.length
 omega
theorem nth_in {X:List Int} {i:Nat} (h:i < X.length):nthI X i∈X:=List.mem_of_getElem? (nthI_some h)
end Go.Proofs.YtidmjdmmpajooaaGreat
namespace Go.Proofs.YtidmjdmmpajooaaGreat
theorem getb_lt {zs:List Int} {m:Nat} (h:m < zs.length):zs.toArray[m]! =zs[m]:=by simp[h]
theorem cmp_up {zs:List Int} (hs:zs.Pairwise (·≤·)):∀m,m≤zs.length→(Lib.compactUpTo zs.toArray m).Pairwise (· < ·)∧(∀x,x∈Lib.compactUpTo zs.toArray m↔x∈zs.take m)
 | 0,_=>by
  refine⟨List.Pairwise.nil,fun x=>?_⟩
  show x∈([]:List Int)↔x∈zs.take 0
  simp
 | m + 1,h=>by
  obtain⟨h1,h2⟩:=cmp_up hs m (by omega)
  have hm:m < zs.length:=by omega
  rw[Lib.compactUpTo_succ]
  have hle:∀x,x∈zs.take m→x≤zs[m]:=fun x hx=>by
   obtain⟨j,hj,rfl⟩:=List.mem_iff_getElem.1 hx
   rw[List.getElem_take]
   have hj':j < m:=by rw[List.length_take] at hj;omega
   exact List.pairwise_iff_getElem.1 hs j m (by omega) hm hj'
  have ht:zs.take (m + 1)=zs.take m ++ [zs[m]]:=by rw[List.take_add_one,List.getElem?_eq_getElem hm];rfl
  by_cases k:Lib.keeps zs.toArray m=true
  ·rw[if_pos k,getb_lt hm]
   refine⟨List.pairwise_append.2 ⟨h1,List.pairwise_singleton _ _,fun x hx y hy=>?_⟩,fun x=>?_⟩
   ·rw[List.mem_singleton.1 hy]
    have hx':=(h2 x).1 hx
    have l1:=hle x hx'
    unfold Lib.keeps at k
    rw[decide_eq_true_iff] at k
    rcases k with k|k
    ·subst k;simp at hx'
    ·rw[getb_lt hm,getb_lt (show m - 1 < zs.length by omega)] at k
     obtain⟨j,hj,rfl⟩:=List.mem_iff_getElem.1 hx'
     rw[List.getElem_take] at l1 ⊢
     have hj':j < m:=by rw[List.length_take] at hj;omega
     have l2:zs[m - 1]≤zs[m]:=List.pairwise_iff_getElem.1 hs (m - 1) m (by omega) hm (by omega)
     have l3:zs[j]≤zs[m - 1]:=by
      by_cases e:j=m - 1
      ·subst e;exact Int.le_refl _
      ·exact List.pairwise_iff_getElem.1 hs j (m - 1) (by omega) (by omega) (by omega)
     omega
   ·rw[ht,List.mem_append,List.mem_append,h2 x]
  ·rw[if_neg k,List.append_nil]
   refine⟨h1,fun x=>?_⟩
   rw[h2 x,ht,List.mem_append,List.mem_singleton]
   constructor
   ·exact .inl
   ·rintro (h|rfl)
    ·exact h
    ·unfold Lib.keeps at k
     rw[decide_eq_true_iff,not_or,Classical.not_not] at k
     rw[getb_lt hm,getb_lt (show m - 1 < zs.length by omega)] at k
     rw[k.2]
     exact List.mem_iff_getElem.2 ⟨m - 1,by rw[List.length_take];omega,by rw[List.getElem_take]⟩
theorem cmp_len (d:Array Int):∀m,(Lib.compactUpTo d m).length≤m
 | 0=>Nat.le_refl _
 | m + 1=>by
  have ih:=cmp_len d m
  rw[Lib.compactUpTo_succ,List.length_append]
  split
  ·rw[List.length_singleton];omega
  ·rw[List.length_nil];omega
theorem cmp_le (l:List Int):(Lib.compact l).length≤l.length:=cmp_len _ _
def axZ (l:List Int):List Int:=Lib.compact (l.mergeSort fun x y=>decide (x≤y))
theorem axZ_law (l:List Int):(axZ l).Pairwise (· < ·)∧∀x,x∈axZ l↔x∈l:=by
 have hs:(l.mergeSort fun x y=>decide (x≤y)).Pairwise (·≤·):=
  (List.pairwise_mergeSort (fun a b c h1 h2=>by simp only[decide_eq_true_eq] at *;omega) (fun a b=>by simp only[Bool.or_eq_true,decide_eq_true_eq];omega) l).imp (by intro a b h;simpa using h)
 have h:=cmp_up hs _ (Nat.le_refl _)
 refine⟨h.1,fun x=>?_⟩
 show x∈Lib.compactUpTo _ _↔_
 rw[h.2 x,List.take_length,List.mem_mergeSort]
def plK2 (ends:List Int) (lo hi sz:Int):List Int:=axZ ([lo,hi - sz] ++ (ends.flatMap fun x=>[x,x - sz]).filter fun y=>decide (lo≤y) && decide (y≤hi - sz))
theorem plK2_crt {E E':List Int} {lo hi sz:Int} (h0:0 < sz) (h1:lo + sz≤hi) (hE:∀x,x∈E↔x∈E'):plK2 E lo hi sz=crtK E' sz lo hi:=by
 have a:=axZ_law ([lo,hi - sz] ++ (E.flatMap fun x=>[x,x - sz]).filter fun y=>decide (lo≤y) && decide (y≤hi - sz))
 have b:=crt_mem (ends:=E') h0 h1
 refine asc_ext a.1 b.1 fun z=>?_
 rw[b.2 z]
 show z∈axZ _↔_
 rw[a.2 z]
 simp only[List.mem_append,List.mem_cons,List.mem_nil_iff,or_false,List.mem_filter,List.mem_flatMap,Bool.and_eq_true,decide_eq_true_eq]
 constructor
 ·rintro ((h|h)|⟨⟨e,he,h⟩,h2,h3⟩)
  ·exact .inl h
  ·exact .inr (.inl h)
  ·exact .inr (.inr ⟨e,(hE e).1 he,h,h2,by omega⟩)
 ·rintro (h|h|⟨e,he,h,h2,h3⟩)
  ·exact .inl (.inl h)
  ·exact .inl (.inr h)
  ·exact .inr ⟨⟨e,(hE e).2 he,h⟩,h2,by omega⟩
end Go.Proofs.YtidmjdmmpajooaaGreat
namespace Go.Proofs.YtidmjdmmpajooaaGreat
open Go Go.RowKit Dg Go.Sort Go.Shelf
def encZ (x:Int):List Value:=[.int .i64 x]
theorem flatZ:∀L:List Int,(L.map encZ).flatten=L.map (Value.int .i64)
 | []=>rfl
 | x ::r=>by show [Value.int .i64 x] ++ (r.map encZ).flatten=_;rw[flatZ r];rfl
theorem ic_map {w:World} {L:List Int} {css:List (List Value)} (c1:css.length=L.length) (c3:∀(i:Nat) (cs:List Value) (x:Int),css[i]?=some cs→L[i]?=some x→IC w cs x):css=L.map encZ:=by
 refine List.ext_getElem? fun i=>?_
 rw[List.getElem?_map]
 by_cases hi:i < L.length
 ·have hc:css[i]?=some (css[i]'(by omega)):=List.getElem?_eq_getElem (by omega)
  have hx:L[i]?=some (L[i]'hi):=List.getElem?_eq_getElem hi
  have:=c3 i _ _ hc hx
  unfold IC at this
  rw[hc,hx,this];rfl
 ·rw[List.getElem?_eq_none (by omega),List.getElem?_eq_none (by omega)];rfl
theorem ownI {base:Nat} {w:World} {v:Value} {L:List Int} (h:cw base 3 1 IC w v L) (h1:1≤L.length):
  ∃(g cap:Nat) (cur:Array Value),v=.slice (some ⟨g,0,none⟩) L.length cap∧base≤g∧w.heap[g]?=some (.cells cur 3 (0,0))∧Holds (Value.int .i64) w g 0 L.toArray∧L.length≤cap∧cap≤maxLen∧cur.size=cap:=by
 obtain⟨css,c1,c2,c3,hown⟩:=h
 have hcs:=ic_map c1 c3
 obtain⟨o1,o2⟩:=hown
 rcases o2 with ⟨_,e0⟩|⟨g,cap,cur,hv,hb,hg,hn,hc,hs,htk⟩
 ·omega
 ·refine⟨g,cap,cur,hv,hb,hg,?_,hn,hc,by rw[hs,Nat.mul_one]⟩
  intro j hj
  have hj':j < L.length:=by simpa using hj
  have e1:(L.map (Value.int .i64))[j]?=some (.int .i64 L.toArray[j]!):=by rw[List.getElem?_map,List.getElem?_eq_getElem hj'];simp[hj']
  rw[←flatZ,←hcs,←htk,List.getElem?_take_of_lt (by omega),Array.getElem?_toList] at e1
  rw[Nat.zero_add]
  constructor
  ·unfold World.cell?
   rw[hg]
   exact e1
  ·unfold World.frozen?
   rw[hg]
   simp
theorem putI_block {w:World} {g m:Nat} {d:Array Int} {os:Array Obj} {j:Nat} (hj:j < w.heap.size) (hn:j≠g):(grow (putRow (Value.int .i64) (Sort.ahead w m) g 0 d) os).heap[j]?=w.heap[j]?:=by
 unfold grow putRow mapBlock Sort.ahead
 simp only
 rw[Array.getElem?_append_left (by simpa using hj),Array.getElem?_modify,if_neg (fun e=>hn e.symm)]
theorem putI_gr {w:World} {g m:Nat} {d:Array Int} {os:Array Obj}:Gr [g] w (grow (putRow (Value.int .i64) (Sort.ahead w m) g 0 d) os):=
 ⟨rfl,rfl,rfl,by unfold grow putRow mapBlock Sort.ahead;simp,fun k hk hn=>putI_block hk (fun e=>hn (by rw[e];exact .head _))⟩
theorem ownI_put {base g cap m k:Nat} {w:World} {cur:Array Value} {D:List Int} {os:Array Obj} (hb:base≤g) (hg:w.heap[g]?=some (.cells cur 3 (0,0))) (hcap:D.length≤cap) (hmax:cap≤maxLen) (hcur:cur.size=cap) (hk:k≤D.length):
  cw base 3 1 IC (grow (putRow (Value.int .i64) (Sort.ahead w m) g 0 D.toArray) os) (.slice (some ⟨g,0,none⟩) k cap) (D.take k):=by
 have hl:(D.take k).length=k:=by rw[List.length_take];omega
 refine⟨(D.take k).map encZ,by simp,fun cs hcs=>by obtain⟨y,_,rfl⟩:=List.mem_map.1 hcs;rfl,fun i cs x hc hx=>?_,by rw[flatZ,List.length_map,Nat.mul_one],Or.inr ⟨g,cap,putCells (Value.int .i64) 0 D.toArray cur,by rw[hl],hb,?_,by rw[hl];omega,hmax,by simp[putCells,hcur],?_⟩⟩
 ·rw[List.getElem?_map,hx] at hc
  cases hc
  rfl
 ·have hlt:=lt_of_block hg
  unfold grow putRow mapBlock Sort.ahead
  simp only
  rw[Array.getElem?_append_left (by simpa using hlt),Array.getElem?_modify,if_pos rfl,hg]
  rfl
 ·rw[flatZ,hl,Nat.mul_one]
  refine List.ext_getElem? fun t=>?_
  by_cases ht:t < k
  ·rw[List.getElem?_take_of_lt ht,Array.getElem?_toList,List.getElem?_map,List.getElem?_take_of_lt ht,List.getElem?_eq_getElem (show t < D.length by omega)]
   unfold putCells
   have hc:t < cur.size:=by omega
   rw[Array.getElem?_mapIdx,Array.getElem?_eq_getElem hc]
   have hz:t < D.toArray.size:=by simp;omega
   simp only[Option.map_some,Nat.zero_le,Nat.zero_add,true_and,Nat.sub_zero,hz,if_true]
   simp[show t < D.length by omega]
  ·rw[List.getElem?_eq_none (by rw[List.length_take];omega),List.getElem?_eq_none (by rw[List.length_map,hl];omega)]
theorem sl_SortI {base:Nat} {v:Value} {L:List Int} (w:World) (h:cw base 3 1 IC w v L) (h2:L.length≤1000) (hw:base≤w.heap.size):
  Calls Tryz.prog 59 #[v] w (fun e w'=>e=.returned (.tuple #[])∧cw base 3 1 IC w' v (L.mergeSort fun x y=>decide (x≤y))∧Below base w w'):=by
 by_cases h1:1≤L.length
 ·obtain⟨g,cap,cur,rfl,hb,hg,hH,hcap,hmax,hcur⟩:=ownI h h1
  have hcon:=Any.slices_Sort_int Tryz.sortI g 0 cap L w hH (lt_of_block hg) (by omega)
  change Calls Tryz.prog 59 _ _ _ at hcon
  refine hcon.mono ?_
  rintro e w' ⟨rfl,n,os,rfl⟩
  have hl:(L.mergeSort fun x y=>decide (x≤y)).length=L.length:=List.length_mergeSort _
  have:=ownI_put (k:=L.length) (m:=n) (os:=os) (D:=L.mergeSort fun x y=>decide (x≤y)) hb hg (by rw[hl];exact hcap) hmax hcur (by rw[hl];exact ag _)
  rw[List.take_of_length_le (by rw[hl];exact ag _)] at this
  exact⟨rfl,this,putI_gr.below1 hw hb⟩
 ·obtain⟨ao,c,rfl, -, -, -⟩:=h.slice
  have e:L=[]:=List.length_eq_zero_iff.1 (by omega)
  subst e
  have hcon:=Any.slices_Sort_int_none Tryz.sortI ao c w
  change Calls Tryz.prog 59 _ _ _ at hcon
  refine hcon.mono ?_
  rintro e w' ⟨rfl,rfl⟩
  exact⟨rfl,by rw[List.mergeSort_nil];exact h,Below.refl _ _⟩
theorem sl_CmpI {base:Nat} {v:Value} {L:List Int} (w:World) (h:cw base 3 1 IC w v L) (h2:L.length≤1000) (hw:base≤w.heap.size):
  Calls Tryz.prog 60 #[v] w (fun e w'=>∃v',e=.returned v'∧cw base 3 1 IC w' v' (Lib.compact L)∧Below base w w'):=by
 by_cases h1:1≤L.length
 ·obtain⟨g,cap,cur,rfl,hb,hg,hH,hcap,hmax,hcur⟩:=ownI h h1
  have hcon:=Any.slices_Compact_int Tryz.cmpI g 0 cap L w hH (by omega) (by omega)
  change Calls Tryz.prog 60 _ _ _ at hcon
  refine hcon.mono ?_
  rintro e w' ⟨rfl,n,rfl⟩
  have hl:=cmp_le L
  have hD:(Lib.compact L ++ List.replicate (L.length - (Lib.compact L).length) 0).length=L.length:=by rw[List.length_append,List.length_replicate];omega
  have:=ownI_put (k:=(Lib.compact L).length) (m:=n) (os:=#[]) (D:=Lib.compact L ++ List.replicate (L.length - (Lib.compact L).length) 0) hb hg (by rw[hD];exact hcap) hmax hcur (by rw[List.length_append];omega)
  rw[List.take_left,grow_empty] at this
  have hbl:=putI_gr (w:=w) (g:=g) (m:=n) (d:=(Lib.compact L ++ List.replicate (L.length - (Lib.compact L).length) 0).toArray) (os:=#[])
  rw[grow_empty] at hbl
  exact⟨_,rfl,this,hbl.below1 hw hb⟩
 ·obtain⟨ao,c,rfl, -, -, -⟩:=h.slice
  have e:L=[]:=List.length_eq_zero_iff.1 (by omega)
  subst e
  have hcon:=Any.slices_Compact_int_empty Tryz.cmpI ao c w
  change Calls Tryz.prog 60 _ _ _ at hcon
  refine hcon.mono ?_
  rintro e w' ⟨rfl,rfl⟩
  exact⟨_,rfl,h,Below.refl _ _⟩
end Go.Proofs.YtidmjdmmpajooaaGreat
