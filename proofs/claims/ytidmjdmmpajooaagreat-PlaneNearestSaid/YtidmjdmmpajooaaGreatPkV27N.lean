/-
  slices.SortFunc at spans, by the shelf's contract; at no element.
-/
import Derived.Test.YtidmjdmmpajooaaGreatPkV26N
import Derived.Test.YtidmjdmmpajooaaGreatPkV2N
import Derived.Test.YtidmjdmmpajooaaGreatPkV14N
import Derived.Shelf.SlSortCmp.WholeK
import Derived.Deep.Slices
set_option linter.unusedSimpArgs false
set_option linter.unusedVariables false
set_option maxHeartbeats 2000000
namespace Go.Proofs.YtidmjdmmpajooaaGreat
open Go.RowKit Dg Go.Sort Go.Shelf
def mr (L:List (Rat × Rat)) (i:Nat):Rat × Rat:=L.getD i (0,0)
theorem nt {L:List (Rat × Rat)} {i:Nat} (h:i < L.length):L[i]?=some (mr L i):=by unfold mr;rw[List.getD_eq_getElem?_getD,List.getElem?_eq_getElem h];rfl
section
variable {w0 w w':World}
def SE (w0:World):Type:={p:((Value × Value × Value) × (Value × Value × Value)) × (Rat × Rat) // PV w0 (.agg #[p.1.1.1,p.1.1.2.1,p.1.1.2.2]) p.2.1∧PV w0 (.agg #[p.1.2.1,p.1.2.2.1,p.1.2.2.2]) p.2.2∧SzQ 100000 p.2.1∧SzQ 100000 p.2.2}
def mz (x:SE w0):List Value:=[x.1.1.1.1,x.1.1.1.2.1,x.1.1.1.2.2,x.1.1.2.1,x.1.1.2.2.1,x.1.1.2.2.2]
def sOf (x:SE w0):Rat × Rat:=x.1.2
instance:Inhabited (SE w0):=⟨⟨(((.bool false,.slice none 0 0,.slice none 0 0),(.bool false,.slice none 0 0,.slice none 0 0)),(0,0)),PV.zero _,PV.zero _,jn.mono (by decide),jn.mono (by decide)⟩⟩
theorem encS_len (x:SE w0):(mz x).length=6:=rfl
theorem encS_pc (x:SE w0):C2 PC w0 (mz x) (sOf x):=⟨[_,_,_],[_,_,_],rfl,⟨_,_,_,rfl,x.2.1⟩,⟨_,_,_,rfl,x.2.2.1⟩⟩
theorem encS_one (x:SE w0):∀v∈mz x,v.oneCell'=true:=by
 have h1:=(PC.one (w:=w0) (cs:=[x.1.1.1.1,x.1.1.1.2.1,x.1.1.1.2.2]) (x:=(sOf x).1) ⟨_,_,_,rfl,x.2.1⟩).2
 have h2:=(PC.one (w:=w0) (cs:=[x.1.1.2.1,x.1.1.2.2.1,x.1.1.2.2.2]) (x:=(sOf x).2) ⟨_,_,_,rfl,x.2.2.1⟩).2
 intro v hv
 rw[show mz x=[x.1.1.1.1,x.1.1.1.2.1,x.1.1.1.2.2] ++ [x.1.1.2.1,x.1.1.2.2.1,x.1.1.2.2.2] from rfl,List.mem_append] at hv
 exact hv.elim (h1 v) (h2 v)
def cfS (x y:SE w0):Int:=sgQ ((sOf x).1 - (sOf y).1)
theorem ltS (x y:SE w0):ltOf cfS x y=decide ((sOf x).1 < (sOf y).1):=by
 unfold ltOf cfS
 exact decide_eq_decide.2 (qg _ _)
theorem swoS:SWO (ltOf (cfS (w0:=w0))) where
 irrefl x:=by rw[ltS];exact decide_eq_false Rat.lt_irrefl
 trans x y z h1 h2:=by
  rw[ltS] at *
  simp only[decide_eq_true_eq] at *
  grind
 ntrans x y z h1 h2:=by
  rw[ltS] at *
  simp only[decide_eq_false_iff_not] at *
  grind
theorem zm {α:Type} [Inhabited α] (enc:α→List Value) (k:Nat) (w:World) (blk off m:Nat) (dk:Array α) (os:Array Obj) (ht:TyB 164 w blk):aw w (sortWorldK enc k w blk off m dk os):=
 ⟨(pz enc k w blk off m dk os (Nat.zero_le _) ht.lt).size,fun j t hj hd=>qf enc k w blk off m dk os hj.lt (fun e=>by
  subst e
  rcases hd with rfl|rfl
  ·exact TyB.ne ht hj (by decide) rfl
  ·exact TyB.ne ht hj (by decide) rfl)⟩
theorem cmpS {blk off size:Nat} (ht:TyB 164 w0 blk):CmpLays Tryz.prog 129 #[] (mz (w0:=w0)) 6 cfS blk off size w0:=by
 intro m os dk _ x y
 have hk:=zm (mz (w0:=w0)) 6 w0 blk off m dk os ht
 have hc:=yx (pl_lenc _ _ _ _ _ _ _ (PV2.mk (x.2.1.keep hk) (x.2.2.1.keep hk)) (SzQ.mid x.2.2.2.1) (PV2.mk (y.2.1.keep hk) (y.2.2.1.keep hk)) (SzQ.mid y.2.2.2.1)) (fun e w' h=>⟨_,h.1⟩)
 refine hc.mono ?_
 rintro e w' ⟨⟨rfl,hb⟩,hd⟩
 exact⟨rfl,grow_of hb hd⟩
theorem flatS {xs:List (SE w0)} {t:Nat} (h:t < xs.length * 6):(xs.map mz).flatten[t]?=some ((flatK mz 6 xs.toArray)[t]!):=by
 have hi:t / 6 < xs.length:=by omega
 have h1:(xs.map mz)[t / 6]?=some (mz (xs[t / 6]'hi)):=by rw[List.getElem?_map,List.getElem?_eq_getElem hi];rfl
 have h2:=js (size:=6) (xs.map mz) (fun cs B2=>by obtain⟨y,_,rfl⟩:=List.mem_map.1 B2;rfl) (t / 6) (t % 6) _ h1 (by omega)
 rw[show t / 6 * 6 + t % 6=t from by omega] at h2
 rw[h2,get_flatK _ _ _ _ (by simpa using h)]
 have e:xs.toArray[t / 6]! =xs[t / 6]'hi:=by simp[hi]
 rw[e]
 have h3:t % 6 < (mz (xs[t / 6]'hi)).length:=by rw[encS_len];omega
 rw[List.getElem?_eq_getElem h3,getElem!_pos (mz (xs[t / 6]'hi)) (t % 6) h3]
theorem ownS {base:Nat} {v:Value} {L:List (Rat × Rat)} (h:cw base 164 6 (C2 PC) w v L) (h1:1≤L.length) (hz:∀i,i < L.length→SzQ 100000 (mr L i).1∧SzQ 100000 (mr L i).2):
  ∃(g B0:Nat) (xs:List (SE w)),v=.slice (some ⟨g,0,none⟩) xs.toArray.size B0∧base≤g∧TyB 164 w g∧xs.map sOf=L∧HoldsK mz 6 w g 0 xs.toArray∧xs.toArray.size≤B0∧B0≤maxLen∧∃B1,w.heap[g]?=some (.cells B1 164 (0,0))∧B1.size=B0 * 6:=by
 obtain⟨css,c1,c2,c3,hown⟩:=h
 have hall:∀i,i < L.length→∃y:SE w,css[i]?=some (mz y)∧sOf y=mr L i:=by
  intro i hi
  have hc:css[i]?=some (css[i]'(by omega)):=List.getElem?_eq_getElem (by omega)
  obtain⟨c1,c2,e,⟨a,b,c,rfl,hp⟩,⟨a',b',c',rfl,hp'⟩⟩:=c3 i _ _ hc (nt hi)
  exact⟨⟨(((a,b,c),(a',b',c')),mr L i),hp,hp',hz i hi⟩,by rw[hc,e];rfl,rfl⟩
 obtain⟨f,hf⟩:=chooseQ hall
 have hxs:((List.range L.length).map f).map sOf=L:=by
  refine List.ext_getElem? fun i=>?_
  rw[List.getElem?_map,List.getElem?_map]
  by_cases hi:i < L.length
  ·rw[List.getElem?_range hi,nt hi]
   show some (sOf (f i))=_
   rw[(hf i hi).2]
  ·rw[List.getElem?_eq_none (by simpa using hi),List.getElem?_eq_none (by omega)];rfl
 have B2:((List.range L.length).map f).map mz=css:=by
  refine List.ext_getElem? fun i=>?_
  rw[List.getElem?_map,List.getElem?_map]
  by_cases hi:i < L.length
  ·rw[List.getElem?_range hi,(hf i hi).1];rfl
  ·rw[List.getElem?_eq_none (by simpa using hi),List.getElem?_eq_none (by omega)];rfl
 obtain⟨o1,o2⟩:=hown
 rcases o2 with ⟨_,e0⟩|⟨g,B0,B1,hv,hb,hg,hn,hc,hs,htk⟩
 ·omega
 ·refine⟨g,B0,(List.range L.length).map f,by rw[hv];simp,hb,⟨_,_,hg⟩,hxs,?_,by simpa using hn,hc,B1,hg,hs⟩
  intro j hj
  have hj':j < L.length * 6:=by simpa using hj
  have e1:=flatS (xs:=(List.range L.length).map f) (t:=j) (by simpa using hj')
  rw[B2,←htk,List.getElem?_take_of_lt hj',Array.getElem?_toList] at e1
  rw[Nat.zero_add]
  constructor
  ·unfold World.cell?
   rw[hg]
   exact e1
  ·unfold World.frozen?
   rw[hg]
   simp
theorem ownS_put {base g B0:Nat} {xs:List (SE w)} {d:Array (SE w)} {m:Nat} {os:Array Obj} {B1:Array Value} (hb:base≤g) (hg:w.heap[g]?=some (.cells B1 164 (0,0))) (B3:xs.toArray.size≤B0) (B5:B0≤maxLen) (B4:B1.size=B0 * 6)
  (B7:d.size=xs.toArray.size):
  cw base 164 6 (C2 PC) (sortWorldK mz 6 w g 0 m d os) (.slice (some ⟨g,0,none⟩) xs.toArray.size B0) (d.toList.map sOf):=by
 have B6:d.toList.length=xs.length:=by simpa using B7
 have hk:=zm (mz (w0:=w)) 6 w g 0 m d os ⟨_,_,hg⟩
 refine⟨d.toList.map mz,by simp,fun cs B2=>by obtain⟨y,_,rfl⟩:=List.mem_map.1 B2;rfl,fun i cs x hc hx=>?_,?_⟩
 ·rw[List.getElem?_map] at hx
  rw[List.getElem?_map] at hc
  cases hy:d.toList[i]? with
  | none=>rw[hy] at hc;cases hc
  | some y=>
   rw[hy] at hc hx
   cases hc
   cases hx
   exact C2.kept PC.kept _ _ _ _ (encS_pc y) hk
 ·have hl:(d.toList.map sOf).length=xs.length:=by rw[List.length_map,B6]
  have hfl:(d.toList.map mz).flatten.length=xs.length * 6:=by
   rw[dz (size:=6) _ (fun cs B2=>by obtain⟨y,_,rfl⟩:=List.mem_map.1 B2;rfl),List.length_map,B6]
  refine⟨by rw[hl,hfl],Or.inr ⟨g,B0,putCells id 0 (flatK mz 6 d) B1,by rw[hl];simp,hb,?_,by rw[hl];simpa using B3,B5,by simp[putCells,B4],?_⟩⟩
  ·have hlt:=lt_of_block hg
   unfold sortWorldK grow putRowK putRow mapBlock Sort.ahead
   simp only
   rw[Array.getElem?_append_left (by simpa using hlt),Array.getElem?_modify,if_pos rfl,hg]
   rfl
  ·rw[hl]
   refine List.ext_getElem? fun t=>?_
   by_cases ht:t < xs.length * 6
   ·have hd3:t < d.toList.length * 6:=by rw[B6];exact ht
    rw[List.getElem?_take_of_lt ht,Array.getElem?_toList]
    have e:=flatS (xs:=d.toList) hd3
    rw[Array.toArray_toList] at e
    rw[e]
    unfold putCells
    have hc:t < B1.size:=by
     have:xs.length≤B0:=by simpa using B3
     rw[B4]
     omega
    rw[Array.getElem?_mapIdx,Array.getElem?_eq_getElem hc]
    have hz:t < (flatK mz 6 d).size:=by rw[size_flatK];simpa using hd3
    simp only[Option.map_some,Nat.zero_le,Nat.zero_add,true_and,Nat.sub_zero,hz,if_true,id]
   ·rw[List.getElem?_eq_none (by rw[List.length_take];omega),List.getElem?_eq_none (by rw[hfl];omega)]
theorem srtS_of {xs:List (SE w)} {d:Array (SE w)} (hperm:PermIn 0 xs.toArray.size xs.toArray d) (hsort:SortedIn (ltOf cfS) 0 xs.toArray.size d):(d.toList.map sOf).Perm (xs.map sOf)∧(d.toList.map sOf).Pairwise (fun a b=>a.1≤b.1):=by
 obtain⟨B7,_,hp⟩:=hperm
 have e1:d.extract 0 xs.toArray.size=d:=by rw[←B7];simp
 have e2:xs.toArray.extract 0 xs.toArray.size=xs.toArray:=by simp
 rw[e1,e2] at hp
 refine⟨by simpa using hp.map sOf,?_⟩
 rw[List.pairwise_map,List.pairwise_iff_getElem]
 intro i j hi hj hij
 have:=hsort i j (Nat.zero_le _) hij (by rw[←B7];simpa using hj)
 rw[ltS] at this
 rw[getElem!_pos d j (by simpa using hj),getElem!_pos d i (by simpa using hi)] at this
 have h3:=of_decide_eq_false this
 rw[Array.getElem_toList,Array.getElem_toList]
 exact Rat.not_lt.1 h3
theorem sl_SortS {base:Nat} {v:Value} {L:List (Rat × Rat)} (w:World) (h:cw base 164 6 (C2 PC) w v L) (h1:1≤L.length) (h2:L.length≤1000) (hz:∀i,i < L.length→SzQ 100000 (mr L i).1∧SzQ 100000 (mr L i).2):
  Calls Tryz.prog 128 #[v,.func (.func 129) #[] #[]] w (fun e w'=>e=.returned (.tuple #[])∧(∃S:List (Rat × Rat),S.Perm L∧S.Pairwise (fun a b=>a.1≤b.1)∧cw base 164 6 (C2 PC) w' v S)∧Below base w w'∧dg 164 w w'):=by
 obtain⟨g,B0,xs,rfl,hb,ht,hq,hH,B3,B5,B1,hg,B4⟩:=ownS h h1 hz
 have hlen:xs.length=L.length:=by rw[←hq];simp
 have B8:=AnyQ.slices_SortFunc Tryz.sortS 6 Tryz.isAgg164 Tryz.sizeOf164 (mz (w0:=w)) encS_len encS_one cfS swoS 129 #[] g 0 B0 xs.toArray w (enters_of Tryz.func129 (by kernel_rfl) rfl) (cmpS ht) hH ht.lt (by simp;omega)
 change Calls Tryz.prog 128 _ _ _ at B8
 refine B8.mono ?_
 rintro e w' ⟨rfl,d,n,os,hp,hs,rfl⟩
 have hS:=srtS_of hp hs
 rw[hq] at hS
 have hbl:=pz (mz (w0:=w)) 6 w g 0 n d os hb ht.lt
 exact⟨rfl,⟨_,hS.1,hS.2,ownS_put (m:=n) (os:=os) hb hg B3 B5 B4 hp.1⟩,hbl,⟨hbl.size,fun k hk hn=>qf _ _ _ _ _ _ _ _ hk (fun e=>by subst e;exact hn ⟨_,_,hg⟩)⟩⟩
end
theorem ins_noneQ (p:Option Addr) (B0:Nat) (fv:Value) (w:World):Calls Tryz.prog 143 #[.slice p 0 B0,.int .i64 0,.int .i64 0,fv] w fun e w'=>e=.returned (.tuple #[])∧w'=w:=by
 go_enter Tryz.func143,Tryz.ntmps143
 go_wp2
 refine wp_loop_rounds 1 ?_
 rw[rounds_succ]
 go_wp2
 go_end0
 exact⟨rfl,rfl⟩
theorem pdq_noneQ (p:Option Addr) (B0:Nat) (lim:Int) (fv:Value) (w:World):Calls Tryz.prog 139 #[.slice p 0 B0,.int .i64 0,.int .i64 0,.int .i64 lim,fv] w fun e w'=>e=.returned (.tuple #[])∧w'=w:=by
 go_enter Tryz.func139,Tryz.ntmps139
 go_wp2
 refine wp_loop_rounds 1 ?_
 rw[rounds_succ]
 go_wp2_with (go_at_call 143;refine (ins_noneQ _ _ _ _).mono ?_;rintro e w' ⟨rfl,rfl⟩)
 (try simp only[Exit.inBlock,Exit.then]);refine bodyPost_ret (results_none rfl _ _ _) rfl ?_
 exact⟨rfl,rfl⟩
theorem sl_SortQ0 (p:Option Addr) (B0:Nat) (fv:Value) (w:World):Calls Tryz.prog 123 #[.slice p 0 B0,fv] w fun e w'=>e=.returned (.tuple #[])∧w'=w:=by
 have hl:∀W,Calls Tryz.prog 86 #[.int .u64 0] W fun e w'=>e=.returned (.int .i64 (Lib.bitLen 0:Nat))∧w'=W:=fun W=>Any.bits_Len (SlLaysF0.n15.bits (P:=Tryz.prog) {Tryz.sortL with}) 0 W (by omega) (by omega)
 go_enter Tryz.func123,Tryz.ntmps123
 go_wp2_with (first|(go_at_call 86;refine (hl _).mono ?_;rintro e w' ⟨rfl,rfl⟩)|(go_at_call 139;refine (pdq_noneQ _ _ _ _ _).mono ?_;rintro e w' ⟨rfl,rfl⟩))
 go_end0
 exact⟨rfl,rfl⟩
theorem ins_noneS (p:Option Addr) (B0:Nat) (fv:Value) (w:World):Calls Tryz.prog 151 #[.slice p 0 B0,.int .i64 0,.int .i64 0,fv] w fun e w'=>e=.returned (.tuple #[])∧w'=w:=by
 go_enter Tryz.func151,Tryz.ntmps151
 go_wp2
 refine wp_loop_rounds 1 ?_
 rw[rounds_succ]
 go_wp2
 go_end0
 exact⟨rfl,rfl⟩
theorem pdq_noneS (p:Option Addr) (B0:Nat) (lim:Int) (fv:Value) (w:World):Calls Tryz.prog 140 #[.slice p 0 B0,.int .i64 0,.int .i64 0,.int .i64 lim,fv] w fun e w'=>e=.returned (.tuple #[])∧w'=w:=by
 go_enter Tryz.func140,Tryz.ntmps140
 go_wp2
 refine wp_loop_rounds 1 ?_
 rw[rounds_succ]
 go_wp2_with (go_at_call 151;refine (ins_noneS _ _ _ _).mono ?_;rintro e w' ⟨rfl,rfl⟩)
 (try simp only[Exit.inBlock,Exit.then]);refine bodyPost_ret (results_none rfl _ _ _) rfl ?_
 exact⟨rfl,rfl⟩
theorem sl_SortS0 (p:Option Addr) (B0:Nat) (fv:Value) (w:World):Calls Tryz.prog 128 #[.slice p 0 B0,fv] w fun e w'=>e=.returned (.tuple #[])∧w'=w:=by
 have hl:∀W,Calls Tryz.prog 86 #[.int .u64 0] W fun e w'=>e=.returned (.int .i64 (Lib.bitLen 0:Nat))∧w'=W:=fun W=>Any.bits_Len (SlLaysF0.n15.bits (P:=Tryz.prog) {Tryz.sortS with}) 0 W (by omega) (by omega)
 go_enter Tryz.func128,Tryz.ntmps128
 go_wp2_with (first|(go_at_call 86;refine (hl _).mono ?_;rintro e w' ⟨rfl,rfl⟩)|(go_at_call 140;refine (pdq_noneS _ _ _ _ _).mono ?_;rintro e w' ⟨rfl,rfl⟩))
 go_end0
 exact⟨rfl,rfl⟩
end Go.Proofs.YtidmjdmmpajooaaGreat
namespace Go.Proofs.YtidmjdmmpajooaaGreat
open Go.RowKit Dg Go.ChangeShapes Go.WideShapes Go.Deep
section
variable {H:Type} {enc:TypeId × Value→H} {P:Program} {W:World} {base b0:Nat} {spare:Nat→Bool} {held:Bool}
theorem okWide_spot {r:Reach} {t e:TypeId} {a:Addr} {len cap:Nat} (ht:P.underlying t=some (.slice e)) (h:Value.okWide P W r b0 t (.slice (some a) len cap)):a.spot=none:=by
 simp only[Value.okWide,ht,Cell.okWide,Cell.ok,World.has] at h
 exact h.2.2.2.1
theorem rowsI_in {α:Type} [Inhabited α] {R:World→List Value→α→Prop} {Ok:α→Prop} {t e:TypeId} {size:Nat} {r:Reach} {v:Value} {d:DataW H} {p:List MemPlace} (ht:P.underlying t=some (.slice e)) (hsz:P.cellsOf e=size)
  (hel:∀n cs x,DataW.trod enc P W base spare held n e cs=some x→∃y,R W cs y∧Ok y)
  (hv:Value.okWide P W r b0 t v) (h:DataW.Trod enc P W base spare held t v d p):∃l:List α,be size R W v l∧∀y∈l,Ok y:=by
 obtain⟨a0,len,cap,rfl⟩:=okWide_slice ht hv
 obtain⟨fuel,hf⟩:=h
 rcases open_slice ht hf with ⟨hcs,_⟩|⟨a,len',cap',m,n,D,Pl,hcs,_,hl,hm,hmm,_,hx⟩
 ·simp[Value.cells] at hcs
  obtain⟨rfl,rfl,rfl⟩:=hcs
  exact⟨[],⟨none,0,rfl,by simp,by omega,fun _=>rfl,fun i x hx=>by simp at hx⟩,by simp⟩
 ·simp[Value.cells] at hcs
  obtain⟨rfl,rfl,rfl⟩:=hcs
  have hsp:=okWide_spot ht hv
  obtain⟨b,o,sp⟩:=a
  simp only at hsp
  subst hsp
  have hall:∀i,i < len→∃y:α,(∃cs:List Value,cs.length=size∧jp W b (o + i * size) cs∧R W cs y)∧Ok y:=by
   intro i hi
   obtain⟨cs,h1,h2⟩:=hx i (by rw[hmm];split<;>omega)
   rw[hsz] at h1
   obtain⟨_,h3,h4⟩:=World.cells?_some h1
   obtain⟨y,h5,h6⟩:=hel n cs _ h2
   refine⟨y,⟨cs,h3,fun j u hu=>?_,h5⟩,h6⟩
   have hj:j < size:=by have:=(List.getElem?_eq_some_iff.1 hu).1;omega
   have:=h4 j hj
   rw[hu,iy,iy] at this
   exact this
  obtain⟨f,hf2⟩:=choose_lt hall
  refine⟨(List.range len).map f,⟨some ⟨b,o,none⟩,cap,by simp,by simpa using hl,by unfold maxLen at hm;omega,(fun e=>by cases e),fun i x hx2=>?_⟩,fun y hy=>?_⟩
  ·rw[List.getElem?_map] at hx2
   by_cases hi:i < len
   ·rw[List.getElem?_range hi] at hx2
    simp only[Option.map_some,Option.some.injEq] at hx2
    subst hx2
    obtain⟨cs,h1,h2,h3⟩:=(hf2 i hi).1
    exact⟨b,o,cs,rfl,h1,h2,h3⟩
   ·rw[List.getElem?_eq_none (by simpa using hi)] at hx2
    cases hx2
  ·obtain⟨i,hi,rfl⟩:=List.mem_map.1 hy
   exact (hf2 i (List.mem_range.1 hi)).2
end
end Go.Proofs.YtidmjdmmpajooaaGreat
namespace Go.Proofs.YtidmjdmmpajooaaGreat
open Go.RowKit Dg Go.ChangeShapes Go.WideShapes Go.Deep
def KeptB {α:Type} (R:World→List Value→α→Prop):Prop:=∀(w w':World) (cs:List Value) (x:α),R w cs x→Below w.heap.size w w'→R w' cs x
def LR {α:Type} (size:Nat) (T:TypeId) (R:World→List Value→α→Prop) (w:World) (cs:List Value) (l:List α):Prop:=∃v,cs=[v]∧Rows size T R w v l
def LRI {α:Type} (size:Nat) (R:World→List Value→α→Prop) (w:World) (cs:List Value) (l:List α):Prop:=∃v,cs=[v]∧be size R w v l
section
variable {α β:Type} {size sz:Nat} {T U:TypeId} {R:World→List Value→α→Prop} {S:World→List Value→β→Prop} {w w':World} {v:Value} {l:List α} {base:Nat}
theorem LR.keptB (hR:ir R):KeptB (LR size T R):=fun _ _ _ _ h hb=>by
 obtain⟨v,e,h⟩:=h
 exact⟨v,e,h.mono hR hb⟩
theorem LRI.keptB (hR:ir R):KeptB (LRI size R):=fun _ _ _ _ h hb=>by
 obtain⟨v,e,h⟩:=h
 exact⟨v,e,h.mono hR hb⟩
theorem Rows.monoB (hR:KeptB R) (h:Rows size T R w v l) (hb:Below w.heap.size w w'):Rows size T R w' v l:=by
 obtain⟨ao,c,e,h1,h2,h3,h4,h5⟩:=h
 refine⟨ao,c,e,h1,h2,h3,h4.mono hb,fun i x hx=>?_⟩
 obtain⟨b,o,cs,ea,hl,hc,hr⟩:=h5 i x hx
 exact⟨b,o,cs,ea,hl,hc.mono hb,hR _ _ _ _ hr hb⟩
theorem be.monoB (hR:KeptB R) (h:be size R w v l) (hb:Below w.heap.size w w'):be size R w' v l:=by
 obtain⟨ao,c,e,h1,h2,h3,h5⟩:=h
 refine⟨ao,c,e,h1,h2,h3,fun i x hx=>?_⟩
 obtain⟨b,o,cs,ea,hl,hc,hr⟩:=h5 i x hx
 exact⟨b,o,cs,ea,hl,hc.mono hb,hR _ _ _ _ hr hb⟩
def ru {β:Type} (base:Nat) (T:TypeId) (sz:Nat) (U:TypeId) (S:World→List Value→β→Prop) (w:World) (v:Value) (l:List (List β)):Prop:=cw base T 1 (LR sz U S) w v l
theorem ru.nil (w:World) (base:Nat) (T:TypeId) (sz:Nat) (U:TypeId) (S:World→List Value→β→Prop):ru base T sz U S w (.slice none 0 0) []:=cw.nil _ _ _ _ _
theorem ru.mono {l:List (List β)} (hS:ir S) (h:ru base T sz U S w v l) (hb:Below w.heap.size w w'):ru base T sz U S w' v l:=by
 obtain⟨css,h1,h2,h3,h4⟩:=h
 exact⟨css,h1,h2,fun i cs x hc hx=>LR.keptB hS _ _ _ _ (h3 i cs x hc hx) hb,qz h4 hb⟩
theorem ru.onlyT {l:List (List β)} (hS:ir S) {t:TypeId} (h:ru base T sz U S w v l) (ho:dg t w w') (hne:t≠T) (hu:t≠U) (hd:t≠95∧t≠152):ru base T sz U S w' v l:=by
 obtain⟨css,h1,h2,h3,h4⟩:=h
 refine⟨css,h1,h2,fun i cs x hc hx=>?_,jd8 h4 ho hne⟩
 obtain⟨u,e,hr⟩:=h3 i cs x hc hx
 exact⟨u,e,hr.onlyT hS ho hu hd⟩
theorem ru.push {l:List (List β)} (hS:ir S) {t:TypeId} {css:List (List Value)} (h1:css.length=l.length) (h2:∀cs∈css,cs.length=1) (h3:∀(i:Nat) (cs:List Value) (x:List β),css[i]?=some cs→l[i]?=some x→LR sz U S w cs x) {v' u:Value} {x:List β} (hx:Rows sz U S w u x)
  {n:Nat} (hn:l.length=n) (hown:w'.ownsRow base T 1 v' (n + 1) (css.flatten ++ [u])) (ho:dg t w w') (hu:t≠U) (hd:t≠95∧t≠152):ru base T sz U S w' v' (l ++ [x]):=by
 subst hn
 refine⟨css ++ [[u]],by simp[h1],?_,?_,?_⟩
 ·intro c hc
  rcases List.mem_append.1 hc with h|h
  ·exact h2 c h
  ·simp at h;rw[h];rfl
 ·intro i c y hc hy
  by_cases hi:i < l.length
  ·rw[List.getElem?_append_left (by omega)] at hc
   rw[List.getElem?_append_left hi] at hy
   obtain⟨z,e,hr⟩:=h3 i c y hc hy
   exact⟨z,e,hr.onlyT hS ho hu hd⟩
  ·have hi':i=l.length:=by
    have:=(List.getElem?_eq_some_iff.1 hy).1
    simp at this
    omega
   subst hi'
   rw[List.getElem?_append_right (by omega),h1] at hc
   rw[List.getElem?_append_right (ag _)] at hy
   simp at hc hy
   subst hc hy
   exact⟨u,rfl,hx.onlyT hS ho hu hd⟩
 ·simpa using hown
theorem ru.rows {l:List (List β)} (h:ru base T sz U S w v l):Rows 1 T (LR sz U S) w v l:=cw.rows h
theorem ru.slice {l:List (List β)} (h:ru base T sz U S w v l):∃ao c,v=.slice ao l.length c∧l.length≤c∧c≤9223372036854775807∧(ao=none→c=0):=cw.slice h
theorem rowLI_at {α:Type} {R:World→List Value→α→Prop} {b o n c:Nat} {L:List (List α)} (h:be 1 (LRI sz R) w (.slice (some ⟨b,o,none⟩) n c) L) {i:Nat} {x:List α} (hx:L[i]?=some x):∃a k,w.cell? ⟨b,o + i,none⟩=some (.slice a x.length k)∧x.length≤k∧k≤9223372036854775807∧be sz R w (.slice a x.length k) x∧b < w.heap.size:=by
 obtain⟨b',o',c',cs,hv,_,hat,u,rfl,hr⟩:=h.get hx
 injection hv with hv _ _
 injection hv with hv
 injection hv with e1 e2
 subst e1 e2
 obtain⟨a,k,rfl,h1,h2,_⟩:=hr.slice
 have:=hat 0 _ rfl
 rw[Nat.mul_one,Nat.add_zero] at this
 exact⟨a,k,this,h1,h2,hr,jw this⟩
end
section
variable {H:Type} {enc:TypeId × Value→H} {P:Program} {W:World} {base b0:Nat} {spare:Nat→Bool} {held:Bool}
end
end Go.Proofs.YtidmjdmmpajooaaGreat
