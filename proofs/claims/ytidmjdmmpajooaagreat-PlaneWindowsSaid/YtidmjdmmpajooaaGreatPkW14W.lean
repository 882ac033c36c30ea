/-
  Polygons: area without the vertices on straight edges; where a point lies; a moving box: plain laws.
-/
import Derived.Test.YtidmjdmmpajooaaGreatPkW11W
import Derived.Test.YtidmjdmmpajooaaGreatPlAW
import Derived.Test.YtidmjdmmpajooaaGreatPkW10W
import Derived.Maps.RangeWalk
import Derived.Maps.OwnOps
import Derived.Maps.Ext
import Derived.Carry
set_option linter.unusedSimpArgs false
set_option linter.unusedVariables false
set_option maxRecDepth 100000
set_option maxHeartbeats 4000000
namespace Go.Proofs.YtidmjdmmpajooaaGreat
def twK (l:List Pt):Nat→Int
 | 0=>0
 | k + 1=>twK l k + crZ (ptZ l k) (ptZ l ((k + 1) % l.length))
def twZ (l:List Pt):Int:=twK l l.length
end Go.Proofs.YtidmjdmmpajooaaGreat
namespace Go.Proofs.YtidmjdmmpajooaaGreat
end Go.Proofs.YtidmjdmmpajooaaGreat
namespace Go.Proofs.YtidmjdmmpajooaaGreat
theorem ptZ_app_lt {x y:List Pt} {i:Nat} (h:i < x.length):ptZ (x ++ y) i=ptZ x i:=by
 unfold ptZ;rw[List.getD_eq_getElem?_getD,List.getD_eq_getElem?_getD,List.getElem?_append_left h]
theorem ptZ_app_eq (x:List Pt) (a:Pt):ptZ (x ++ [a]) x.length=a:=by
 unfold ptZ;rw[List.getD_eq_getElem?_getD,List.getElem?_append_right (Nat.le_refl _),Nat.sub_self];rfl
end Go.Proofs.YtidmjdmmpajooaaGreat
namespace Go.Proofs.YtidmjdmmpajooaaGreat
end Go.Proofs.YtidmjdmmpajooaaGreat
namespace Go.Proofs.YtidmjdmmpajooaaGreat
def sm:List Int→Nat→List Int
 | [],0=>[0]
 | [],_ + 1=>[]
 | _ ::_,0=>[0]
 | r ::l,k + 1=>sm l (k + 1) ++ (sm l k).map (· + r)
end Go.Proofs.YtidmjdmmpajooaaGreat
namespace Go.Proofs.YtidmjdmmpajooaaGreat
open Go.RowKit Dg
attribute [local go_sem ↓] Go.wp_at_zero Go.wp_at_succ
end Go.Proofs.YtidmjdmmpajooaaGreat
namespace Go.Proofs.YtidmjdmmpajooaaGreat
open Go Go.Maps Go.RowKit Dg
section
variable {H:Type}
def Rd (D:DataW H) (f:Int→Nat):Prop:=IsMap D∧∀s,(has D (.int .i64 s)=true→(∀z,D.atKey (.int .i64 s) z=.lit (.int .i64 (f s)))∧0 < f s)∧(has D (.int .i64 s)=false→f s=0)
theorem Rd.nil:Rd (.map []:DataW H) (fun _=>0):=⟨isMap_empty,fun _=>⟨(fun h=>Bool.noConfusion (h:false=true)),(fun _=>rfl)⟩⟩
theorem Rd.put {D:DataW H} {f:Int→Nat} (h:Rd D f) (x:Int) {c:Nat} (hc:0 < c):Rd (D.put (.int .i64 x) (.lit (.int .i64 (c:Int)))) (fun s=>if s=x then c else f s):=by
 refine⟨h.1.put _ _,fun s=>?_⟩
 by_cases e:s=x
 ·subst e
  dsimp only
  rw[if_pos rfl]
  have hk:WideAt.IsKeyLit (Lit.int .i64 s):=trivial
  exact⟨fun _=>⟨fun z=>atKey_put_same h.1 hk _ z,hc⟩,fun h0=>by rw[has_put_same h.1 hk] at h0;cases h0⟩
 ·have hne:Lit.int .i64 s≠Lit.int .i64 x:=fun e'=>e (by injection e')
  dsimp only
  rw[if_neg e,has_put_other hne]
  obtain⟨a,b⟩:=h.2 s
  exact⟨fun h1=>⟨fun z=>by rw[atKey_put_other hne];exact (a h1).1 z,(a h1).2⟩,b⟩
theorem Rd.look {D:DataW H} {f:Int→Nat} (h:Rd D f) {s c:Int} (hc:D.atKey (.int .i64 s) (.lit (.int .i64 0))=.lit (.int .i64 c)):c=f s:=by
 obtain⟨a,b⟩:=h.2 s
 cases e:has D (.int .i64 s)
 ·rw[atKey_of_not_has e] at hc
  injection hc with hc;injection hc with _ hc
  rw[b e];omega
 ·rw[(a e).1] at hc
  injection hc with hc;injection hc with _ hc
  omega
end
structure Btw (B t:Nat) (w w':World):Prop where
 os:w'.os=w.os
 tape:w'.tape=w.tape
 output:w'.output=w.output
 size:w.heap.size≤w'.heap.size
 block:∀k,k < B→k≠t→w'.heap[k]?=w.heap[k]?
theorem Btw.refl (B t:Nat) (w:World):Btw B t w w:=⟨rfl,rfl,rfl,ag _,fun _ _ _=>rfl⟩
theorem Btw.trans {B t:Nat} {a b c:World} (h:Btw B t a b) (k:Btw B t b c):Btw B t a c:=⟨k.os.trans h.os,k.tape.trans h.tape,k.output.trans h.output,Nat.le_trans h.size k.size,fun i hi hn=>(k.block i hi hn).trans (h.block i hi hn)⟩
theorem Btw.below {B t:Nat} {w w':World} (h:Btw B t w w') {B':Nat} (h1:B'≤B) (h2:B'≤t):Below B' w w':=⟨h.os,h.tape,h.output,h.size,fun i hi=>h.block i (by omega) (by omega)⟩
theorem Btw.cell {B t:Nat} {w w':World} (h:Btw B t w w') {a:Addr} (h1:a.block < B) (h2:a.block≠t):w'.cell? a=w.cell? a:=World.cell?_of_block (h.block _ h1 h2)
theorem Btw.grown {B t:Nat} {w w':World} (h:Btw B t w w') {b:Nat} (h1:b < B) (h2:b≠t):w'.heap[b]?=w.heap[b]?:=h.block b h1 h2
end Go.Proofs.YtidmjdmmpajooaaGreat
namespace Go.Proofs.YtidmjdmmpajooaaGreat
open Go.RowKit Dg
end Go.Proofs.YtidmjdmmpajooaaGreat
namespace Go.Proofs.YtidmjdmmpajooaaGreat
open Go.RowKit Dg
def swL (L:List Rat) (j:Nat):List Rat:=(L.set (j + 1) (bj L j)).set j (bj L (j + 1))
def insP:Nat→List Rat→List Rat
 | 0,L=>L
 | j + 1,L=>if bj L (j + 1) < bj L j then insP j (swL L j) else L
def srtP (L:List Rat):Nat→List Rat
 | 0=>L
 | i + 1=>insP i (srtP L i)
theorem swL_len (L:List Rat) (j:Nat):(swL L j).length=L.length:=by simp[swL]
theorem insP_len:∀(j:Nat) (L:List Rat),(insP j L).length=L.length
 | 0,_=>rfl
 | j + 1,L=>by
  rw[insP]
  split
  ·rw[insP_len j,swL_len]
  ·rfl
theorem jf5 (L:List Rat):∀i,(srtP L i).length=L.length
 | 0=>rfl
 | i + 1=>by rw[srtP,insP_len,jf5 L i]
theorem insP_yes {j:Nat} {L:List Rat} (h:bj L (j + 1) < bj L j):insP (j + 1) L=insP j (swL L j):=by rw[insP,if_pos h]
theorem insP_no {j:Nat} {L:List Rat} (h:¬ bj L (j + 1) < bj L j):insP (j + 1) L=L:=by rw[insP,if_neg h]
theorem wm (A B:List Rat) (x:Rat):bj (A ++ x ::B) A.length=x:=by
 unfold bj
 rw[List.getD_eq_getElem?_getD,List.getElem?_append_right (ag _),Nat.sub_self];rfl
theorem swL_app (A B:List Rat) (y x:Rat):swL (A ++ y ::x ::B) A.length=A ++ x ::y ::B:=by
 unfold swL
 have e1:bj (A ++ y ::x ::B) (A.length + 1)=x:=by
  have:=wm (A ++ [y]) B x
  rw[List.length_append] at this
  simpa using this
 rw[wm,e1,List.set_append_right _ _ (by omega),show A.length + 1 - A.length=1 from by omega,List.set_append_right _ _ (by omega),Nat.sub_self]
 rfl
def insR (x:Rat):List Rat→List Rat
 | []=>[x]
 | y ::r=>if x < y then insR x r ++ [y] else r.reverse ++ [y,x]
theorem insP_insR (x:Rat):∀(r B:List Rat),insP r.length (r.reverse ++ x ::B)=insR x r ++ B
 | [],B=>rfl
 | y ::r,B=>by
  have e:(y ::r).reverse ++ x ::B=r.reverse ++ y ::x ::B:=by simp
  have h1:bj (r.reverse ++ y ::x ::B) (r.length + 1)=x:=by
   have:=wm (r.reverse ++ [y]) B x
   rw[List.length_append,List.length_reverse] at this
   simpa using this
  have h2:bj (r.reverse ++ y ::x ::B) r.length=y:=by
   have:=wm r.reverse (x ::B) y
   rwa [List.length_reverse] at this
  rw[e]
  show insP (r.length + 1) _=_
  by_cases c:x < y
  ·rw[insP_yes (by rw[h1,h2];exact c)]
   have:=swL_app r.reverse B y x
   rw[List.length_reverse] at this
   rw[this,insP_insR x r (y ::B),insR,if_pos c]
   simp
  ·rw[insP_no (by rw[h1,h2];exact c),insR,if_neg c]
   simp
theorem xz (x:Rat):∀r:List Rat,(insR x r).Perm (x ::r)
 | []=>.refl _
 | y ::r=>by
  rw[insR]
  split
  ·have h:=(xz x r).append_right [y]
   exact h.trans ((List.perm_append_singleton y (x ::r)).trans (.swap _ _ _))
  ·have h1:(r.reverse ++ [y,x]).Perm ([y,x] ++ r.reverse):=List.perm_append_comm
   have h2:([y,x] ++ r.reverse).Perm ([y,x] ++ r):=(List.reverse_perm r).append_left _
   exact (h1.trans h2).trans (.swap _ _ _)
theorem zf (x:Rat):∀r:List Rat,r.Pairwise (fun a b=>b≤a)→(insR x r).Pairwise (·≤·)
 | [],_=>by simp[insR]
 | y ::r,h=>by
  obtain⟨h1,h2⟩:=List.pairwise_cons.1 h
  rw[insR]
  split
  ·rename_i c
   refine List.pairwise_append.2 ⟨zf x r h2,by simp,fun a ha b hb=>?_⟩
   rw[List.mem_singleton] at hb
   subst hb
   rcases List.mem_cons.1 ((xz x r).mem_iff.1 ha) with rfl|ha
   ·exact Rat.le_of_lt c
   ·exact h1 a ha
  ·rename_i c
   have c':y≤x:=Rat.not_lt.1 c
   refine List.pairwise_append.2 ⟨List.pairwise_reverse.2 h2,by simpa using c',fun a ha b hb=>?_⟩
   have ha':=h1 a (List.mem_reverse.1 ha)
   rcases List.mem_cons.1 hb with rfl|hb
   ·exact ha'
   ·rw[List.mem_singleton] at hb
    subst hb
    exact Rat.le_trans ha' c'
theorem tu (L:List Rat):∀i,i≤L.length→(srtP L i).Perm L∧∃A B,srtP L i=A ++ B∧A.length=i∧A.Pairwise (·≤·)
 | 0,_=>⟨.refl _,[],L,rfl,rfl,by simp⟩
 | i + 1,h=>by
  obtain⟨hp,A,B,e,hl,hs⟩:=tu L i (by omega)
  have hlen:(A ++ B).length=L.length:=by rw[←e,jf5]
  rw[List.length_append] at hlen
  match B,hlen with
  | x ::B,_=>
   have h1:=insP_insR x A.reverse B
   rw[List.length_reverse,List.reverse_reverse,hl] at h1
   have hpm:=xz x A.reverse
   have hpm2:(insR x A.reverse ++ B).Perm (A ++ x ::B):=by
    refine (hpm.append_right B).trans ?_
    have:(x ::A.reverse ++ B).Perm (x ::(A ++ B)):=.cons _ ((List.reverse_perm A).append_right B)
    exact this.trans List.perm_middle.symm
   rw[srtP,e,h1]
   refine⟨hpm2.trans (e ▸ hp),insR x A.reverse,B,rfl,?_,zf x _ (List.pairwise_reverse.2 hs)⟩
   have:=hpm.length_eq
   simp at this
   omega
  | [],hlen=>simp at hlen;omega
def ym (L:List Rat):List Rat:=srtP L L.length
theorem yp (L:List Rat):(ym L).Perm L:=(tu L L.length (ag _)).1
theorem srtQ_sorted (L:List Rat):(ym L).Pairwise (·≤·):=by
 obtain⟨_,A,B,e,hl,hs⟩:=tu L L.length (ag _)
 have hlen:(A ++ B).length=L.length:=by rw[←e,jf5]
 rw[List.length_append] at hlen
 obtain rfl:B=[]:=List.length_eq_zero_iff.1 (by omega)
 rw[List.append_nil] at e
 unfold ym
 rw[e]
 exact hs
def atM (L:List Rat) (v:Rat):Nat:=L.countP (fun x=>decide (x≤v))
theorem ord_iff (v:Rat):∀(S:List Rat),S.Pairwise (·≤·)→∀r,r < S.length→(bj S r≤v↔r + 1≤atM S v)
 | [],_,r,h=>by simp at h
 | a ::t,hs,r,h=>by
  obtain⟨h1,h2⟩:=List.pairwise_cons.1 hs
  by_cases c:a≤v
  ·have e:atM (a ::t) v=atM t v + 1:=by unfold atM;rw[List.countP_cons_of_pos (by simpa using c)]
   rw[e]
   match r with
   | 0=>exact⟨fun _=>by omega,fun _=>c⟩
   | r + 1=>
    have:=ord_iff v t h2 r (by simpa using h)
    show bj t r≤v↔_
    rw[this]
    omega
  ·have e:atM (a ::t) v=0:=by
    unfold atM
    rw[List.countP_eq_zero]
    intro x hx
    rcases List.mem_cons.1 hx with rfl|hx
    ·simpa using c
    ·have:=h1 x hx
     simp only[decide_eq_true_eq]
     exact fun hv=>c (Rat.le_trans this hv)
   rw[e]
   constructor
   ·intro hv
    exfalso
    match r with
    | 0=>exact c hv
    | r + 1=>
     have hr:r < t.length:=by simpa using h
     have:=h1 (bj t r) (List.mem_of_getElem? (ia hr))
     exact c (Rat.le_trans this hv)
   ·intro hv;omega
theorem eq_of_le {a b:Rat} (h:∀v,a≤v↔b≤v):a=b:=Rat.le_antisymm ((h b).2 Rat.le_refl) ((h a).1 Rat.le_refl)
end Go.Proofs.YtidmjdmmpajooaaGreat
namespace Go.Proofs.YtidmjdmmpajooaaGreat
abbrev Edg:=Pt × Pt
def slK (l:List Pt):Nat→List Edg
 | 0=>[]
 | k + 1=>if (ptZ l k).1=(ptZ l ((k + 1) % l.length)).1 then slK l k else slK l k ++ [(ptZ l k,ptZ l ((k + 1) % l.length))]
def slE (l:List Pt):List Edg:=slK l l.length
def loE (e:Edg):Int:=min e.1.1 e.2.1
def hiE (e:Edg):Int:=max e.1.1 e.2.1
def crX (e f:Edg):Rat:=(e.1.1:Rat) + ((crZ (mnZ f.1 e.1) (mnZ f.2 f.1):Int):Rat) / ((crZ (mnZ e.2 e.1) (mnZ f.2 f.1):Int):Rat) * ((mnZ e.2 e.1).1:Rat)
def crB (e f:Edg):Bool:=!decide (crZ (mnZ e.2 e.1) (mnZ f.2 f.1)=0) && (!decide (crX e f < (loE e:Rat)) && (!decide ((hiE e:Rat) < crX e f) && (!decide (crX e f < (loE f:Rat)) && !decide ((hiE f:Rat) < crX e f))))
def crL (e:Edg) (q:List Edg):List Rat:=q.flatMap fun f=>if crB e f=true then [crX e f] else []
def seL (e:Edg) (r:List (List Edg)):List Rat:=[(e.1.1:Rat),(e.2.1:Rat)] ++ r.flatMap (crL e)
def qr:List (List Edg)→List Rat
 | []=>[]
 | p ::r=>p.flatMap (fun e=>seL e r) ++ qr r
def cpQ:List Rat→List Rat
 | a ::b ::r=>if a=b then cpQ (b ::r) else a ::cpQ (b ::r)
 | l=>l
def xsQ (l:List (List Edg)):List Rat:=cpQ (ym (qr l))
def atE (e:Edg) (x:Rat):Rat:=(e.1.2:Rat) + (x - (e.1.1:Rat)) * (((mnZ e.2 e.1).2:Rat) / ((mnZ e.2 e.1).1:Rat))
def ysQ (p:List Edg) (x:Rat):List Rat:=p.flatMap fun e=>if (loE e:Rat) < x∧x < (hiE e:Rat) then [atE e x] else []
def prQ:List Rat→List (Rat × Rat)
 | a ::b ::r=>(a,b) ::prQ r
 | _=>[]
def spQ (p:List Edg) (x:Rat):List (Rat × Rat):=prQ (ym (ysQ p x))
def lnF (s:Rat × Rat) (x:Rat × Rat):Rat × Rat:=
 let e:=if s.2 < x.1 then x.1 else s.2
 if e < x.2 then (s.1 + (x.2 - e),x.2) else (s.1,e)
def lnQ:List (Rat × Rat)→Rat
 | []=>0
 | x ::r=>(r.foldl lnF (if x.1 < x.2 then (x.2 - x.1,x.2) else (0,x.1))).1
def insS (x:Rat × Rat):List (Rat × Rat)→List (Rat × Rat)
 | []=>[x]
 | y ::r=>if x.1 < y.1 then x ::y ::r else y ::insS x r
def xi (l:List (Rat × Rat)):List (Rat × Rat):=l.foldl (fun a x=>insS x a) []
def rr (ps:List (List Edg)) (a b:Rat):Rat:=(b - a) * lnQ (xi (ps.flatMap fun p=>spQ p ((a + b) * (1 / 2))))
def sumQ (ps:List (List Edg)):List Rat→Rat
 | a ::b ::r=>rr ps a b + sumQ ps (b ::r)
 | _=>0
def uniQ (l:List (List Pt)):Rat:=sumQ (l.map slE) (xsQ (l.map slE)) * 2
def tri:List Pt:=[(0,0),(3,0),(0,2)]
def squ:List Pt:=[(1,0),(2,0),(2,1),(1,1)]
theorem uni_sample:uniQ [tri,squ]=37 / 6:=by decide +kernel
theorem jc1:fl tri=0∧fl squ=0∧twZ tri=6∧twZ squ=2:=by decide +kernel
end Go.Proofs.YtidmjdmmpajooaaGreat
namespace Go.Proofs.YtidmjdmmpajooaaGreat
open Go.RowKit Dg
attribute [local go_sem ↓] Go.wp_at_zero Go.wp_at_succ
theorem szN {n:Int} (h:Wn 4294967295 n):SzQ 1 (n:Rat):=szQ_int (by have:=h.1;have:=h.2;omega)
theorem qj {n:Int} (h:Wn 9223372036854775807 n):SzQ 2 (n:Rat):=by
 have h1:=h.1;have h2:=h.2
 refine⟨?_,?_⟩
 ·rw[Rat.num_intCast];show n.natAbs < 4294967296 ^ 2;omega
 rw[Rat.den_intCast];decide
theorem szD {n d:Int} (h:Wn 9223372036854775807 n) (k:Wn 9223372036854775807 d) (hd:d≠0):SzQ 4 ((n:Rat) / (d:Rat)):=SzQ.div (qj h) (qj k) (fun e=>hd (Rat.intCast_eq_zero_iff.1 e))
theorem fh (n:Int) (w:World) (h:Wn 9223372036854775807 n):
  Calls Tryz.prog 89 #[.int .i64 n] w (mp w (n:Rat)):=by
 have hs:=Below.refl w.heap.size w
 go_enter Tryz.func89,Tryz.ntmps89
 go_wp2_with fail
 refine Calls.abs ?_
 intro w1 hW
 have hG:Gr [] w w1:=by rw[hW];exact (Gr.refl _ _).alloc
 have Bg:=hs.size
 have Blk:Bx w1 (w.heap.size) 37 #[.bool false,.slice none 0 0,.slice none 0 0]:=by rw[hW];exact (Bx.new0 _ _ _)
 replace hs:=hs.trans (hG.below0 hs.size)
 clear hW hG
 have Bf:=Blk.lt
 with_reducible refine (p_Int_calls n _ (h.lo64 (by decide)) (h.hi (by decide))).mono ?_
 rintro e w2 ⟨_,rfl,h1,hb⟩
 obtain⟨Bb,B8,Ba,B9,B5,B7,B6,rfl⟩:=h1.shape
 revert Blk;refine mS hs hb ?_;clear hs hb;intro hs Blk
 refine Blk.k3fl fun B2 B3 B4 fk Lk=>?_
 go_wp2
 clear B2 B3 B4 fk Lk
 refine bodyPost.abs ?_
 intro w3 hW
 have hG:Gr [w.heap.size] w2 w3:=by rw[hW];exact (Gr.refl _ _).set.set.set
 have hsz:=hs.size
 have lk:=Blk.lt
 have hk:=hG.keep ⟨⟨_,Blk.ty,by decide⟩,True.intro⟩
 have Bc:Bx w3 (w.heap.size) 37 #[.bool Bb,.slice B8 Ba B9,.slice B5 B7 B6]:=by rw[hW];exact Blk.set3
 replace hs:=hs.trans (hG.d1 hs.size)
 replace Blk:=Bc
 clear Bc
 replace h1:=h1.keep hk
 clear hW hG hk hsz lk
 refine Blk.k3 fun B2 B3 B4=>?_
 exact bodyPost_ret (v:=.agg #[.bool Bb,.slice B8 Ba B9,.slice B5 B7 B6]) (by simp[results,Tryz.results89,go_sem,B2,B3,B4]) rfl ⟨_,rfl,h1,hs⟩
theorem ja9 (n d:Int) (w:World) (h:Wn 9223372036854775807 n) (k:Wn 9223372036854775807 d) (hd:d≠0):
  Calls Tryz.prog 100 #[.int .i64 n,.int .i64 d] w (mp w ((n:Rat) / (d:Rat))):=by
 have hs:=Below.refl w.heap.size w
 go_enter Tryz.func100,Tryz.ntmps100
 go_wp2_with fail
 refine Calls.abs ?_
 intro w1 hW
 have hG:Gr [] w w1:=by rw[hW];exact (Gr.refl _ _).alloc
 have Bg:=hs.size
 have Blk:Bx w1 (w.heap.size) 37 #[.bool false,.slice none 0 0,.slice none 0 0]:=by rw[hW];exact (Bx.new0 _ _ _)
 replace hs:=hs.trans (hG.below0 hs.size)
 clear hW hG
 have Bf:=Blk.lt
 with_reducible refine (p_New_calls n d _ (h.lo64 (by decide)) (h.hi (by decide)) (k.lo64 (by decide)) (k.hi (by decide)) hd).mono ?_
 rintro e w2 ⟨_,rfl,h1,hb⟩
 obtain⟨Bb,B8,Ba,B9,B5,B7,B6,rfl⟩:=h1.shape
 revert Blk;refine mS hs hb ?_;clear hs hb;intro hs Blk
 go_upto_region 2 with fail
 refine Code.abs ?_
 intro w3 hW
 have hG:Gr [] w2 w3:=by rw[hW];exact (Gr.refl _ _).alloc
 have sz_w3:=hs.size
 have nk_w3:=Blk.lt
 have Be:Bx w3 (w2.heap.size) 37 #[.bool Bb,.slice B8 Ba B9,.slice B5 B7 B6]:=by rw[hW];exact (Bx.new0 _ _ _)
 replace hs:=hs.trans (hG.below0 hs.size)
 revert h1 Blk;refine g0 hG ?_;intro h1 Blk
 clear hW hG
 have hz_w3:=Be.lt
 refine Be.k3l fun Bl Bm Bn Lx=>?_
 refine Blk.k3fl fun B2 B3 B4 fk Lk=>?_
 go_wp2
 clear Bl Bm Bn B2 B3 B4 fk Lx Lk
 refine bodyPost.abs ?_
 intro w4 hW
 have hG:Gr [w.heap.size] w3 w4:=by rw[hW];exact (Gr.refl _ _).set.set.set
 have hsz:=hs.size
 have lk:=Blk.lt
 have hk:=hG.keep ⟨⟨_,Blk.ty,by decide⟩,True.intro⟩
 have Bc:Bx w4 (w.heap.size) 37 #[.bool Bb,.slice B8 Ba B9,.slice B5 B7 B6]:=by rw[hW];exact Blk.set3
 replace hs:=hs.trans (hG.d1 hs.size)
 replace Be:=hG.b1 Be
 replace Blk:=Bc
 clear Bc
 replace h1:=h1.keep hk
 clear hW hG hk hsz lk
 refine Blk.k3 fun B2 B3 B4=>?_
 exact bodyPost_ret (v:=.agg #[.bool Bb,.slice B8 Ba B9,.slice B5 B7 B6]) (by simp[results,Tryz.results100,go_sem,B2,B3,B4]) rfl ⟨_,rfl,h1,hs⟩
theorem ed_ends (a b:Pt) (w:World):
  Calls Tryz.prog 126 #[.agg #[.int .i64 a.1,.int .i64 a.2,.int .i64 b.1,.int .i64 b.2]] w (fj w (.tuple #[.int .i64 (min a.1 b.1),.int .i64 (max a.1 b.1)])):=by
 have hs:=Below.refl w.heap.size w
 go_enter Tryz.func126,Tryz.ntmps126
 go_upto_region 1 with fail
 refine Code.abs ?_
 intro w1 hW
 have hG:Gr [] w w1:=by rw[hW];exact (Gr.refl _ _).alloc
 have Bg:=hs.size
 have Bd:Bx w1 (w.heap.size) 69 #[.int .i64 a.1,.int .i64 a.2,.int .i64 b.1,.int .i64 b.2]:=by rw[hW];exact (Bx.new0 _ _ _)
 replace hs:=hs.trans (hG.below0 hs.size)
 clear hW hG
 have Bf:=Bd.lt
 refine bw (S:=fun w'=>w'.cell? ⟨w.heap.size,0,none⟩=some (.int .i64 a.1)∧w'.cell? ⟨w.heap.size,1,none⟩=some (.int .i64 a.2)∧w'.cell? ⟨w.heap.size,2,none⟩=some (.int .i64 b.1)∧w'.cell? ⟨w.heap.size,3,none⟩=some (.int .i64 b.2)) (by kernel_rfl) 16 ?_
 refine cq.abs ?_
 intro w2 hW
 have hb:Below w1.heap.size w1 w2:=by rw[hW];exact de _
 replace hs:=ar hs hb
 replace Bd:=Bd.mono hb
 clear hb hW
 refine Bd.k4 fun Bh Bi Bj Bk=>?_
 have hH:=(show w2.cell? ⟨w.heap.size,0,none⟩=some (.int .i64 a.1)∧w2.cell? ⟨w.heap.size,1,none⟩=some (.int .i64 a.2)∧w2.cell? ⟨w.heap.size,2,none⟩=some (.int .i64 b.1)∧w2.cell? ⟨w.heap.size,3,none⟩=some (.int .i64 b.2) from ⟨Bh,Bi,Bj,Bk⟩)
 refine U_tq 0 4 hH ?_
 refine U_tq 1 5 hH ?_
 refine U_tq 2 6 hH ?_
 refine U_tq 3 7 hH ?_
 refine U_tq 4 8 hH ?_
 refine U_tq 5 9 hH ?_
 refine U_tq 6 10 hH ?_
 refine U_tq 7 11 hH ?_
 refine U_tq 8 12 hH ?_
 refine U_tq 9 13 hH ?_
 refine U_tq 10 14 hH ?_
 refine U_tq 11 15 hH ?_
 refine U_tq 12 16 hH ?_
 refine U_tq 13 17 hH ?_
 refine U_tq 14 2 hH ?_
 refine U_tq 15 3 hH ?_
 clear hH
 refine im (by kernel_rfl) ?_
 clear Bh Bi Bj Bk
 go_wp2
 go_ret2
 exact⟨rfl,hs⟩
end Go.Proofs.YtidmjdmmpajooaaGreat
namespace Go.Proofs.YtidmjdmmpajooaaGreat
def tmL (a d lo hi:Int):Rat:=if d=0 then -1 else if d < 0 then ((hi - a:Int):Rat) / (d:Rat) else ((lo - a:Int):Rat) / (d:Rat)
def tmH (a d lo hi:Int):Rat:=if d=0 then 2 else if d < 0 then ((lo - a:Int):Rat) / (d:Rat) else ((hi - a:Int):Rat) / (d:Rat)
def tmB (a d lo hi:Int):Bool:=!decide (d=0) || (decide (lo < a) && decide (a < hi))
def mxR (x y:Rat):Rat:=if x < y then y else x
def mnR (x y:Rat):Rat:=if y < x then y else x
abbrev Bxx:=Pt × Pt
def hitL (a b:Pt) (w h:Int) (o:Bxx):Rat:=mxR (tmL a.1 (b.1 - a.1) (o.1.1 - w) (o.2.1 + w)) (tmL a.2 (b.2 - a.2) (o.1.2 - h) (o.2.2 + h))
def hitH (a b:Pt) (w h:Int) (o:Bxx):Rat:=mnR (tmH a.1 (b.1 - a.1) (o.1.1 - w) (o.2.1 + w)) (tmH a.2 (b.2 - a.2) (o.1.2 - h) (o.2.2 + h))
def hitB (a b:Pt) (w h:Int) (o:Bxx):Bool:=
 tmB a.1 (b.1 - a.1) (o.1.1 - w) (o.2.1 + w) && (tmB a.2 (b.2 - a.2) (o.1.2 - h) (o.2.2 + h) && (decide (hitL a b w h o < hitH a b w h o) && (decide (hitL a b w h o < 1) && decide (0 < hitH a b w h o))))
end Go.Proofs.YtidmjdmmpajooaaGreat
namespace Go.Proofs.YtidmjdmmpajooaaGreat
def bxZ (l:List Bxx) (i:Nat):Bxx:=l.getD i ((0,0),(0,0))
def hitN (path:List Pt) (w h:Int) (obs:List Bxx) (i k:Nat):Bool:=hitB (ptZ path i) (ptZ path (i + 1)) w h (bxZ obs k)
def SwR (path:List Pt) (w h:Int) (obs:List Bxx) (i k:Int):Prop:=
 (i= -1∧k= -1∧∀a b,a + 1 < path.length→b < obs.length→hitN path w h obs a b=false)∨
 ∃a b:Nat,i=a∧k=b∧a + 1 < path.length∧b < obs.length∧hitN path w h obs a b=true∧(∀c d,c < a→d < obs.length→hitN path w h obs c d=false)∧∀d,d < b→hitN path w h obs a d=false
theorem SwR.neg {path:List Pt} {w h:Int} {obs:List Bxx} {i k:Int} (h1:SwR path w h obs i k):(i < 0↔k < 0)∧(i < 0↔∀a b,a + 1 < path.length→b < obs.length→hitN path w h obs a b=false)∧(0 < path.length→i < path.length - 1)∧k < obs.length:=by
 rcases h1 with ⟨rfl,rfl,h1⟩|⟨a,b,rfl,rfl,ha,hb,hh,hf,ho⟩
 ·exact⟨by omega,⟨fun _=>h1,fun _=>by omega⟩,fun _=>by omega,by omega⟩
 ·refine⟨by omega,⟨fun h=>by omega,fun h=>?_⟩,fun _=>by omega,by omega⟩
  rw[h a b ha hb] at hh;cases hh
end Go.Proofs.YtidmjdmmpajooaaGreat
