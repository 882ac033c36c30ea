/-
  slices.Concat at two lists of points.
-/
import Derived.Test.YtbnomdlojmgigaaGreatPkP17P
import Derived.Test.YtbnomdlojmgigaaGreatPkP2P
import Derived.Test.YtbnomdlojmgigaaGreatSortP
import Derived.Shelf.SlicesQ.Reverse
set_option linter.unusedSimpArgs false
set_option linter.unusedVariables false
set_option maxRecDepth 100000
set_option maxHeartbeats 16000000
namespace Go.Proofs.YtbnomdlojmgigaaGreat
open Go.RowKit Dg
attribute [local go_sem ↓] Go.wp_at_zero Go.wp_at_succ
theorem sl_ConcatP (g:Nat) (x y:Value) (A B:List Pt) (w:World) (hx:w.cell? ⟨g,0,none⟩=some x) (hy:w.cell? ⟨g,1,none⟩=some y) (ha:Rows 2 31 IP w x A) (hb:Rows 2 31 IP w y B) (h1:1≤A.length + B.length) (h2:A.length + B.length≤1000):
  Calls Tryz.prog 101 #[.slice (some ⟨g,0,none⟩) 2 2] w (Ret1 (fun w v=>Rows 2 31 IP w v (A ++ B)) w):=by
 have hs:=Below.refl w.heap.size w
 have HX:=ae hx
 have HY:=ae hy
 have HA:=ae ha
 have HB:=ae hb
 clear hx hy ha hb
 obtain⟨i0,hi,hz0,hz1,hz2⟩:=info_parts pt_info
 go_enter Tryz.func101,Tryz.ntmps101
 go_wp2
 go_loopw [3,11] (fun s3 s11 wq=>∃k:Nat,k≤2∧s11=.int .i64 k∧s3=.int .i64 (((caL A B k).length:Nat))∧Below w.heap.size w wq) (fun s3 s11 _=>2 - (intOf s11).toNat)
 case atStart=>exact⟨0,Nat.zero_le _,rfl,rfl,hs⟩
 case round=>
  clear hs
  obtain⟨k,k_le,rfl,rfl,hs⟩:=hrel
  obtain⟨wl1,hwo⟩:∃x,x=wr:=⟨_,rfl⟩
  subst hwo
  have hcl:=caL_len (A:=A) (B:=B) k (by omega)
  obtain⟨sz,Hsz⟩:∃z:Nat,z=(caL A B k).length:=⟨_,rfl⟩
  rw[←Hsz] at hcl ⊢
  replace Hsz:=ae Hsz
  by_cases q1:k < 2
  ·have q1d:((k:Int) < 2)=True:=eq_true (by omega)
   obtain⟨ae2,ce2,Ee2,hRe2⟩:=ptL_at (ah HX.out hs) (ah HY.out hs) (HA.out.mono IP.kept hs) (HB.out.mono IP.kept hs) (show k < 2 by omega)
   have hle2:=ptL_len (A:=A) (B:=B) k
   replace hRe2:=ae hRe2
   have AX3:IntKind.i64.wrap ((sz:Int) + ((ptL A B k).length:Int))=(sz:Int) + ((ptL A B k).length:Int):=IntWalk.i64_in _ (by omega)
   have q4:¬ ((sz:Int) + ((ptL A B k).length:Int) < 0):=by omega
   have q4d:((sz:Int) + ((ptL A B k).length:Int) < 0)=False:=eq_false (by omega)
   have AX5:IntKind.i64.wrap ((k:Int) + 1)=(k:Int) + 1:=IntWalk.i64_in _ (by omega)
   go_wp2
   go_roundw
   case rel=>exact⟨k + 1,by omega,by go_num,congrArg (Value.int .i64) (show (sz:Int) + ((ptL A B k).length:Int)=(((caL A B (k + 1)).length:Nat):Int) from by show _=(((caL A B k ++ ptL A B k).length:Nat):Int);rw[List.length_append,←Hsz.out];push_cast;rfl),hs⟩
   all_goals first|(simp[intOf];done)|(simp[intOf];omega)
  have q1d:((k:Int) < 2)=False:=eq_false (by omega)
  obtain⟨tn,htn⟩:∃z:Nat,z=A.length + B.length:=⟨_,rfl⟩
  have hsum:sz=tn:=by rw[Hsz.out,show k=2 from by omega,caL_two,List.length_append,htn]
  have htn1:1≤tn:=by omega
  have htn2:tn≤1000:=by omega
  replace htn:=ae htn
  rw[hsum]
  clear hsum
  go_wp2_with fail
  with_reducible refine (sl_GrowP _ hs.size tn (by omega) (by omega)).mono ?_
  rintro e w21 ⟨_,rfl,hgrow,hb⟩
  replace hs:=ar hs hb
  clear hb
  go_wp2
  go_loopw [6,27] (fun s6 s27 wq=>∃j:Nat,j≤2∧s27=.int .i64 j∧Below w.heap.size w wq∧cw w.heap.size 31 2 IP wq s6 (caL A B j)) (fun s6 s27 _=>2 - (intOf s27).toNat)
  case atStart=>exact⟨0,Nat.zero_le _,rfl,hs,hgrow⟩
  case round=>
   clear hs
   obtain⟨j,k_le,rfl,hs,Oout⟩:=hrel
   obtain⟨wl2,hwo⟩:∃x,x=wr:=⟨_,rfl⟩
   subst hwo
   by_cases q2:j < 2
   ·have q2d:((j:Int) < 2)=True:=eq_true (by omega)
    obtain⟨ae3,ce3,Ee3,hRe3⟩:=ptL_at (ah HX.out hs) (ah HY.out hs) (HA.out.mono IP.kept hs) (HB.out.mono IP.kept hs) (show j < 2 by omega)
    have hle3:=ptL_len (A:=A) (B:=B) j
    replace hRe3:=ae hRe3
    go_wp2_with (at_builtin;refine wpList.stop ?_)
    refine⟨?_⟩
    clear Ee3
    have hcl:=caL_len (A:=A) (B:=B) j (by omega)
    have hcp:=ptL_len (A:=A) (B:=B) j
    refine wpList_append_rows (by rfl) _ _ IP.kept ip_one (by decide) (by rfl) Tryz.underlying22 hi hz0 hz1 hz2 (by rfl) (by omega) (by rfl) (by rfl) Oout hRe3.out (by unfold maxLen;omega) (by omega) hs.size ?_
    intro vw42 w42 hON hb1 ho
    replace Oout:=hON
    replace hs:=hs.trans hb1
    clear hON hb1 ho hcl hcp hRe3
    have AX4:IntKind.i64.wrap ((j:Int) + 1)=(j:Int) + 1:=IntWalk.i64_in _ (by omega)
    go_wp2
    go_roundw
    case rel=>exact⟨j + 1,by omega,by go_num,hs,Oout⟩
    all_goals first|(simp[intOf];done)|(simp[intOf];omega)
   have q2d:((j:Int) < 2)=False:=eq_false (by omega)
   go_wp2
   go_ret
   exact⟨_,rfl,by have h:=Oout.rows;rwa [show j=2 from by omega,caL_two] at h,hs⟩
end Go.Proofs.YtbnomdlojmgigaaGreat
namespace Go.Proofs.YtbnomdlojmgigaaGreat
open Go.RowKit Dg Go.Sort Go.Shelf
def encP (x:Pt):List Value:=[.int .i64 x.1,.int .i64 x.2]
theorem encP_len (x:Pt):(encP x).length=2:=rfl
theorem encP_one (x:Pt):∀v∈encP x,v.oneCell'=true:=ip_one (default:World) _ x rfl
theorem flatP {xs:List Pt} {t:Nat} (h:t < xs.length * 2):(xs.map encP).flatten[t]?=some ((flatK encP 2 xs.toArray)[t]!):=by
 have hi:t / 2 < xs.length:=by omega
 have h1:(xs.map encP)[t / 2]?=some (encP (xs[t / 2]'hi)):=by rw[List.getElem?_map,List.getElem?_eq_getElem hi];rfl
 have h2:=js (size:=2) (xs.map encP) (fun cs hcs=>by obtain⟨y,_,rfl⟩:=List.mem_map.1 hcs;rfl) (t / 2) (t % 2) _ h1 (by omega)
 rw[show t / 2 * 2 + t % 2=t from by omega] at h2
 rw[h2,get_flatK _ _ _ _ (by simpa using h)]
 have e:xs.toArray[t / 2]! =xs[t / 2]'hi:=by simp[hi]
 rw[e]
 have h3:t % 2 < (encP (xs[t / 2]'hi)).length:=by rw[encP_len];omega
 rw[List.getElem?_eq_getElem h3,getElem!_pos (encP (xs[t / 2]'hi)) (t % 2) h3]
theorem ip_map {w:World} {L:List Pt} {css:List (List Value)} (c1:css.length=L.length) (c3:∀(i:Nat) (cs:List Value) (x:Pt),css[i]?=some cs→L[i]?=some x→IP w cs x):css=L.map encP:=by
 refine List.ext_getElem? fun i=>?_
 rw[List.getElem?_map]
 by_cases hi:i < L.length
 ·have hc:css[i]?=some (css[i]'(by omega)):=List.getElem?_eq_getElem (by omega)
  have hx:L[i]?=some (L[i]'hi):=List.getElem?_eq_getElem hi
  have:=c3 i _ _ hc hx
  unfold IP at this
  rw[hc,hx,this];rfl
 ·rw[List.getElem?_eq_none (by omega),List.getElem?_eq_none (by omega)];rfl
theorem ownPt {base:Nat} {w:World} {v:Value} {L:List Pt} (h:cw base 31 2 IP w v L) (h1:1≤L.length):
  ∃(g cap:Nat) (cur:Array Value),v=.slice (some ⟨g,0,none⟩) L.toArray.size cap∧base≤g∧w.heap[g]?=some (.cells cur 31 (0,0))∧HoldsK encP 2 w g 0 L.toArray∧L.length≤cap∧cap≤maxLen∧cur.size=cap * 2:=by
 obtain⟨css,c1,c2,c3,hown⟩:=h
 have hcs:=ip_map c1 c3
 obtain⟨o1,o2⟩:=hown
 rcases o2 with ⟨_,e0⟩|⟨g,cap,cur,hv,hb,hg,hn,hc,hs,htk⟩
 ·omega
 ·refine⟨g,cap,cur,by rw[hv];simp,hb,hg,?_,hn,hc,hs⟩
  intro j hj
  have hj':j < L.length * 2:=by simpa using hj
  have e1:=flatP (xs:=L) (t:=j) hj'
  rw[←hcs,←htk,List.getElem?_take_of_lt hj',Array.getElem?_toList] at e1
  rw[Nat.zero_add]
  constructor
  ·unfold World.cell?
   rw[hg]
   exact e1
  ·unfold World.frozen?
   rw[hg]
   simp
theorem putP_block {w:World} {g m:Nat} {d:Array Pt} {j:Nat} (hn:j≠g):(putRowK encP 2 (Sort.ahead w m) g 0 d).heap[j]?=w.heap[j]?:=by
 unfold putRowK putRow mapBlock Sort.ahead
 simp only
 rw[Array.getElem?_modify,if_neg (fun e=>hn e.symm)]
theorem putP_gr {w:World} {g m:Nat} {d:Array Pt}:Gr [g] w (putRowK encP 2 (Sort.ahead w m) g 0 d):=
 ⟨rfl,rfl,rfl,by unfold putRowK putRow mapBlock Sort.ahead;simp,fun k _ hn=>putP_block (fun e=>hn (by rw[e];exact .head _))⟩
theorem sl_RevP {base:Nat} {v:Value} {L:List Pt} (w:World) (h:cw base 31 2 IP w v L) (h1:1≤L.length) (h2:L.length≤1000) (hw:base≤w.heap.size):
  Calls Tryz.prog 99 #[v] w (fun e w'=>e=.returned (.tuple #[])∧cw base 31 2 IP w' v L.reverse∧Below base w w'):=by
 obtain⟨g,cap,cur,rfl,hb,hg,hH,hcap,hmax,hcur⟩:=ownPt h h1
 have hcon:=AnyQ.slices_Reverse Tryz.revP 2 Tryz.isAgg31 Tryz.sizeOf31 encP encP_len encP_one g 0 cap L.toArray w hH (by simp;omega)
 change Calls Tryz.prog 99 _ _ _ at hcon
 refine hcon.mono ?_
 rintro e w' ⟨rfl,n,rfl⟩
 refine⟨rfl,?_,putP_gr.below1 hw hb⟩
 have hl:L.reverse.length=L.length:=List.length_reverse
 have hd:L.toArray.reverse=L.reverse.toArray:=by simp
 rw[hd]
 have hfl:(L.reverse.map encP).flatten.length=L.length * 2:=by
  rw[dz (size:=2) _ (fun cs hcs=>by obtain⟨y,_,rfl⟩:=List.mem_map.1 hcs;rfl),List.length_map,hl]
 refine⟨L.reverse.map encP,by simp,fun cs hcs=>by obtain⟨y,_,rfl⟩:=List.mem_map.1 hcs;rfl,fun i cs x hc hx=>?_,by rw[hl,hfl],Or.inr ⟨g,cap,putCells id 0 (flatK encP 2 L.reverse.toArray) cur,by rw[hl];simp,hb,?_,by rw[hl];exact hcap,hmax,by simp[putCells,hcur],?_⟩⟩
 ·rw[List.getElem?_map,hx] at hc
  cases hc
  rfl
 ·have hlt:=lt_of_block hg
  unfold putRowK putRow mapBlock Sort.ahead
  simp only
  rw[Array.getElem?_modify,if_pos rfl,hg]
  rfl
 ·rw[hl]
  refine List.ext_getElem? fun t=>?_
  by_cases ht:t < L.length * 2
  ·have hd3:t < L.reverse.length * 2:=by rw[hl];exact ht
   rw[List.getElem?_take_of_lt ht,Array.getElem?_toList,flatP (xs:=L.reverse) hd3]
   unfold putCells
   have hc:t < cur.size:=by rw[hcur];omega
   rw[Array.getElem?_mapIdx,Array.getElem?_eq_getElem hc]
   have hz:t < (flatK encP 2 L.reverse.toArray).size:=by rw[size_flatK];simpa using hd3
   simp only[Option.map_some,Nat.zero_le,Nat.zero_add,true_and,Nat.sub_zero,hz,if_true,id]
  ·rw[List.getElem?_eq_none (by rw[List.length_take];omega),List.getElem?_eq_none (by rw[hfl];omega)]
end Go.Proofs.YtbnomdlojmgigaaGreat
