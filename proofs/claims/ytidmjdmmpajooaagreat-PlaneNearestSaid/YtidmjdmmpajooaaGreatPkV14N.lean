/-
  Sums of k of a list of numbers, as often as they come; what the order of the list, and the rest of the list, make of them; the doubled ranks. No program is in sight here.
-/
import Derived.Test.YtidmjdmmpajooaaGreatPkV12N
import Derived.Test.YtidmjdmmpajooaaGreatPkV2N
import Derived.Test.YtidmjdmmpajooaaGreatPkV3N
import Derived.Test.YtidmjdmmpajooaaGreatPkV0N
import Derived.Lib.AppendZerosOnto
import Derived.Lib.SliceRun
import Derived.Handy
import Derived.Maps.RangeWalk
import Derived.Maps.OwnOps
import Derived.Maps.Ext
import Derived.Carry
set_option linter.unusedSimpArgs false
set_option linter.unusedVariables false
namespace Go.Proofs.YtidmjdmmpajooaaGreat
end Go.Proofs.YtidmjdmmpajooaaGreat
namespace Go.Proofs.YtidmjdmmpajooaaGreat
section
variable {p:Rat} (h0:0≤p) (h1:p≤1)
include h0 h1
end
end Go.Proofs.YtidmjdmmpajooaaGreat
namespace Go.Proofs.YtidmjdmmpajooaaGreat
open Go.RowKit Dg
attribute [local go_sem ↓] Go.wp_at_zero Go.wp_at_succ
end Go.Proofs.YtidmjdmmpajooaaGreat
namespace Go.Proofs.YtidmjdmmpajooaaGreat
open Go.RowKit Dg
abbrev Lay:=Rat × Rat × Rat
def layPos (x:Lay):Bool:=decide (0 < x.1) && (decide (0 < x.2.1) && decide (0 < x.2.2))
def LaySz (B:Nat) (x:Lay):Prop:=SzQ B x.1∧SzQ B x.2.1∧SzQ B x.2.2
theorem jn:SzQ 1 (0:Rat):=szQ_int (n:=0) (by decide)
section
variable {l:List Lay} {B:Nat} (hz:∀x∈l,LaySz B x) (hp:∀x∈l,layPos x=true)
include hz hp
end
def C3 (R:World→List Value→Rat→Prop) (w:World) (cs:List Value) (x:Lay):Prop:=∃c1 c2 c3,cs=c1 ++ (c2 ++ c3)∧R w c1 x.1∧R w c2 x.2.1∧R w c3 x.2.2
def C2 (R:World→List Value→Rat→Prop) (w:World) (cs:List Value) (x:Rat × Rat):Prop:=∃c1 c2,cs=c1 ++ c2∧R w c1 x.1∧R w c2 x.2
theorem C3.kept {R:World→List Value→Rat→Prop} (hR:ir R):ir (C3 R):=fun _ _ _ _ ⟨c1,c2,c3,e,h1,h2,h3⟩ hk=>⟨c1,c2,c3,e,hR _ _ _ _ h1 hk,hR _ _ _ _ h2 hk,hR _ _ _ _ h3 hk⟩
theorem C2.kept {R:World→List Value→Rat→Prop} (hR:ir R):ir (C2 R):=fun _ _ _ _ ⟨c1,c2,e,h1,h2⟩ hk=>⟨c1,c2,e,hR _ _ _ _ h1 hk,hR _ _ _ _ h2 hk⟩
end Go.Proofs.YtidmjdmmpajooaaGreat
namespace Go.Proofs.YtidmjdmmpajooaaGreat
open Go.RowKit Dg
theorem s1_pos (x:Rat):0 < sgQ x↔0 < x:=by
 have h:=sgQ_le x
 by_cases hc:0 < x
 ·exact⟨fun _=>hc,fun _=>by have:=mt h.1 (fun hn=>hn hc);omega⟩
 ·exact⟨fun h1=>absurd (h.2 hc) (by omega),fun h1=>absurd h1 hc⟩
theorem s1_lt (x:Rat):sgQ x < 0↔x < 0:=sgQ_lt x
theorem rt (x y:Rat):0 < sgQ (x - y)↔y < x:=by rw[s1_pos,←Rat.lt_iff_sub_pos]
theorem qg (x y:Rat):sgQ (x - y) < 0↔x < y:=by
 have e:(0:Rat) - (x - y)=y - x:=by simp[Rat.sub_eq_add_neg,Rat.neg_add,Rat.add_comm,Rat.zero_add,Rat.add_zero]
 rw[s1_lt,Rat.lt_iff_sub_pos,e,←Rat.lt_iff_sub_pos]
theorem sq_le (x y:Rat):sgQ (x - y)≤0↔x≤y:=by rw[←Rat.not_lt,←rt];omega
theorem RV.zero (w:World):RV w (.agg #[.bool false,.slice none 0 0,.slice none 0 0]) 0:=
 ⟨_,_,0,rfl,⟨_,_,_,[],rfl,Sl.empty _ _ _ _ (by omega) (fun _=>rfl),bi.nil _,rfl⟩,⟨_,_,_,[],rfl,Sl.empty _ _ _ _ (by omega) (fun _=>rfl),bi.nil _,rfl⟩,.inr ⟨rfl,rfl⟩⟩
abbrev Mid (q:Rat):Prop:=SzQ 1000000 q
theorem SzQ.mid {K:Nat} {q:Rat} (h:SzQ K q) (hK:K≤1000000:=by omega):Mid q:=h.mono hK
def PV2 (w:World) (v:Value) (x y:Rat):Prop:=∃a b c d e f,v=.agg #[a,b,c,d,e,f]∧PV w (.agg #[a,b,c]) x∧PV w (.agg #[d,e,f]) y
def RV2 (w:World) (v:Value) (x y:Rat):Prop:=∃a b c d e f,v=.agg #[a,b,c,d,e,f]∧RV w (.agg #[a,b,c]) x∧RV w (.agg #[d,e,f]) y
section
variable {w w':World} {v:Value} {x y:Rat}
theorem PV2.mk {a b c d e f:Value} (h1:PV w (.agg #[a,b,c]) x) (h2:PV w (.agg #[d,e,f]) y):PV2 w (.agg #[a,b,c,d,e,f]) x y:=⟨_,_,_,_,_,_,rfl,h1,h2⟩
theorem RV2.mk {a b c d e f:Value} (h1:RV w (.agg #[a,b,c]) x) (h2:RV w (.agg #[d,e,f]) y):RV2 w (.agg #[a,b,c,d,e,f]) x y:=⟨_,_,_,_,_,_,rfl,h1,h2⟩
theorem PV2.shape (h:PV2 w v x y):∃s a n c A N D s' a' n' c' A' N' D',v=.agg #[.bool s,.slice a n c,.slice A N D,.bool s',.slice a' n' c',.slice A' N' D']∧PV w (.agg #[.bool s,.slice a n c,.slice A N D]) x∧PV w (.agg #[.bool s',.slice a' n' c',.slice A' N' D']) y:=by
 obtain⟨_,_,_,_,_,_,rfl,h1,h2⟩:=h
 obtain⟨_,_,_,_,_,_,_,e⟩:=h1.shape
 obtain⟨rfl,rfl,rfl⟩:=agg3 e
 obtain⟨_,_,_,_,_,_,_,e⟩:=h2.shape
 obtain⟨rfl,rfl,rfl⟩:=agg3 e
 exact⟨_,_,_,_,_,_,_,_,_,_,_,_,_,_,rfl,h1,h2⟩
theorem RV2.shape (h:RV2 w v x y):∃s a n c A N D s' a' n' c' A' N' D',v=.agg #[.bool s,.slice a n c,.slice A N D,.bool s',.slice a' n' c',.slice A' N' D']∧RV w (.agg #[.bool s,.slice a n c,.slice A N D]) x∧RV w (.agg #[.bool s',.slice a' n' c',.slice A' N' D']) y:=by
 obtain⟨_,_,_,_,_,_,rfl,h1,h2⟩:=h
 obtain⟨_,_,_,_,_,_,_,e⟩:=h1.shape
 obtain⟨rfl,rfl,rfl⟩:=agg3 e
 obtain⟨_,_,_,_,_,_,_,e⟩:=h2.shape
 obtain⟨rfl,rfl,rfl⟩:=agg3 e
 exact⟨_,_,_,_,_,_,_,_,_,_,_,_,_,_,rfl,h1,h2⟩
theorem PV2.mono (h:PV2 w v x y) (hb:Below w.heap.size w w'):PV2 w' v x y:=by
 obtain⟨_,_,_,_,_,_,rfl,h1,h2⟩:=h
 exact .mk (h1.mono hb) (h2.mono hb)
theorem RV2.mono (h:RV2 w v x y) (hb:Below w.heap.size w w'):RV2 w' v x y:=by
 obtain⟨_,_,_,_,_,_,rfl,h1,h2⟩:=h
 exact .mk (h1.mono hb) (h2.mono hb)
end
def bj (L:List Rat) (i:Nat):Rat:=L.getD i 0
theorem ia {L:List Rat} {i:Nat} (h:i < L.length):L[i]?=some (bj L i):=by unfold bj;rw[List.getD_eq_getElem?_getD,List.getElem?_eq_getElem h];rfl
theorem PC.cells {w:World} {cs:List Value} {x:Rat} (h:PC w cs x):∃g a n c A N D,cs=[.bool g,.slice a n c,.slice A N D]∧PV w (.agg #[.bool g,.slice a n c,.slice A N D]) x:=by
 obtain⟨_,_,_,rfl,h⟩:=h
 obtain⟨g,a,n,c,A,N,D,e⟩:=h.shape
 obtain⟨rfl,rfl,rfl⟩:=agg3 e
 exact⟨g,a,n,c,A,N,D,rfl,h⟩
theorem RC.cells {w:World} {cs:List Value} {x:Rat} (h:RC w cs x):∃g a n c A N D,cs=[.bool g,.slice a n c,.slice A N D]∧RV w (.agg #[.bool g,.slice a n c,.slice A N D]) x:=by
 obtain⟨_,_,_,rfl,h⟩:=h
 obtain⟨g,a,n,c,A,N,D,e⟩:=h.shape
 obtain⟨rfl,rfl,rfl⟩:=agg3 e
 exact⟨g,a,n,c,A,N,D,rfl,h⟩
theorem ug {w:World} {T:TypeId} {b o n c:Nat} {L:List Rat} {i:Nat} (h:Rows 3 T PC w (.slice (some ⟨b,o,none⟩) n c) L) (hi:i < L.length):
  ∃g a n' c' A N D,w.cell? ⟨b,o + i * 3,none⟩=some (.bool g)∧w.cell? ⟨b,o + i * 3 + 1,none⟩=some (.slice a n' c')∧w.cell? ⟨b,o + i * 3 + 2,none⟩=some (.slice A N D)∧PV w (.agg #[.bool g,.slice a n' c',.slice A N D]) (bj L i)∧b < w.heap.size:=by
 obtain⟨b',o',c',cs,hv,_,hat,hc⟩:=h.get (ia hi)
 obtain⟨e,rfl⟩:=yk hv
 injection e with e
 injection e with e1 e2
 subst e1 e2
 obtain⟨g,a,n',c',A,N,D,rfl,hp⟩:=hc.cells
 exact⟨g,a,n',c',A,N,D,hat 0 _ rfl,hat 1 _ rfl,hat 2 _ rfl,hp,jw (hat 0 _ rfl)⟩
theorem Rows.gr {α:Type} {size:Nat} {T:TypeId} {R:World→List Value→α→Prop} {gs:List Nat} {w w':World} {b o n c:Nat} {l:List α} (h:Rows size T R w (.slice (some ⟨b,o,none⟩) n c) l) (hR:ir R) (hG:Gr gs w w') (hn:b ∉ gs) (hk:aw w w'):
  Rows size T R w' (.slice (some ⟨b,o,none⟩) n c) l:=by
 obtain⟨ao,c',e,h1,h2,h3,h4,h5⟩:=h
 injection e with ea en ec
 subst ea en ec
 refine⟨_,_,rfl,h1,h2,h3,fun a ea hl=>?_,fun i x hx=>?_⟩
 ·cases ea
  obtain⟨cs,fr,h6⟩:=h4 _ rfl hl
  exact⟨cs,fr,(hG.block b (lt_of_block h6) hn).trans h6⟩
 ·obtain⟨b',o',cs,ea,hl,hc,hr⟩:=h5 i x hx
  cases ea
  exact⟨b,o,cs,rfl,hl,fun j u hu=>hG.cell (hc j u hu) hn,hR _ _ _ _ hr hk⟩
section
variable {w w':World}
instance {v:Value} {x y:Rat}:Mv (PV2 w v x y) w w' (PV2 w' v x y):=⟨fun hb h=>h.mono hb⟩
instance {v:Value} {x y:Rat}:Mv (RV2 w v x y) w w' (RV2 w' v x y):=⟨fun hb h=>h.mono hb⟩
end
end Go.Proofs.YtidmjdmmpajooaaGreat
namespace Go.Proofs.YtidmjdmmpajooaaGreat
open Go.RowKit Dg
end Go.Proofs.YtidmjdmmpajooaaGreat
namespace Go.Proofs.YtidmjdmmpajooaaGreat
open Go.RowKit Dg
def Ap (o:Option Nat) (g:Nat):Prop:=o≠some g
def Ap2 (o p:Option Nat):Prop:=∀g,o=some g→p≠some g
theorem Ap.ne {o:Option Nat} {g:Nat} (h:Ap o g):some g≠o:=fun e=>h e.symm
theorem Ap.app {o:Option Nat} {g b H:Nat} (h:Ap o b) (hl:o=some g∨g=H) (hb:b < H):Ap (some g) b:=fun e=>by
 injection e with e
 rcases hl with h1|h1
 ·exact h (e ▸ h1)
 ·omega
theorem Ap.one {o:Option Nat} {g:Nat} (h:Ap o g):∀k∈[g],Ap o k:=fun k hk=>by
 cases hk with
 | head=>exact h
 | tail _ hk=>cases hk
theorem Ap2.nil (p:Option Nat):Ap2 none p:=fun _ h=>by cases h
theorem Ap2.symm {o p:Option Nat} (h:Ap2 o p):Ap2 p o:=fun g h1 h2=>h g h2 h1
theorem Ap2.or {o p:Option Nat} (h:Ap2 o p):p=none∨p≠o:=by
 cases o with
 | none=>cases p with
  | none=>exact .inl rfl
  | some k=>exact .inr (fun h=>by cases h)
 | some g=>exact .inr (h g rfl)
section
variable {α:Type} {base:Nat} {size:Nat} {T:TypeId} {R:World→List Value→α→Prop} {w w':World} {v u:Value} {l:List α}
theorem cw.ap (h:cw base T size R w v l) {g:Nat} (hg:w.heap.size≤g):Ap v.ownBlock g:=fun e=>by
 obtain⟨css,_,_,_,h4⟩:=h
 have:=(h4.lt g e).2
 omega
theorem Ap2.app {o:Option Nat} {g H:Nat} (h:Ap2 o u.ownBlock) (hl:o=some g∨g=H) (ho:cw base T size R w u l) (hH:w.heap.size≤H):Ap2 (some g) u.ownBlock:=fun k e=>by
 injection e with e
 subst e
 rcases hl with h1|h1
 ·exact h g h1
 ·exact ho.ap (by omega)
theorem cw.gr (hR:ir R) (h:cw base T size R w v l) {gs:List Nat} (hG:Gr gs w w') (hn:∀g∈gs,Ap v.ownBlock g) (hk:aw w w'):cw base T size R w' v l:=by
 obtain⟨css,h1,h2,h3,h4⟩:=h
 refine⟨css,h1,h2,fun i cs x hc hx=>hR _ _ _ _ (h3 i cs x hc hx) hk,?_⟩
 obtain⟨e1,e2⟩:=h4
 refine⟨e1,?_⟩
 rcases e2 with e2|⟨g,cap,cur,rfl,hb,hg,r⟩
 ·exact .inl e2
 ·refine .inr ⟨g,cap,cur,rfl,hb,?_,r⟩
  rw[hG.block g (lt_of_block hg) (fun hm=>hn g hm rfl)]
  exact hg
theorem cw.push' (hR:ir R) {css:List (List Value)} (h1:css.length=l.length) (h2:∀cs∈css,cs.length=size) (h3:∀(i:Nat) (cs:List Value) (x:α),css[i]?=some cs→l[i]?=some x→R w cs x) {v':Value} {cs:List Value} {x:α} (hl:cs.length=size) (hx:R w cs x)
  {n:Nat} (hn:l.length=n) (hown:w'.ownsRow base T size v' (n + 1) (css.flatten ++ cs)) (hk:aw w w'):cw base T size R w' v' (l ++ [x]):=by
 subst hn
 exact cw.push hR h1 h2 h3 hl hx hown hk
theorem el (hR:ir R) (v:Value) (W W':World) (h:Rows size T R W v l) (hb:Below W.heap.size W W'):Rows size T R W' v l:=h.mono hR hb
end
end Go.Proofs.YtidmjdmmpajooaaGreat
namespace Go.Proofs.YtidmjdmmpajooaaGreat
open Go.RowKit Dg
attribute [local go_sem ↓] Go.wp_at_zero Go.wp_at_succ
end Go.Proofs.YtidmjdmmpajooaaGreat
namespace Go.Proofs.YtidmjdmmpajooaaGreat
open Go.RowKit Dg
attribute [local go_sem ↓] Go.wp_at_zero Go.wp_at_succ
end Go.Proofs.YtidmjdmmpajooaaGreat
namespace Go.Proofs.YtidmjdmmpajooaaGreat
open Go.RowKit Dg
attribute [local go_sem ↓] Go.wp_at_zero Go.wp_at_succ
theorem PC.one {w:World} {cs:List Value} {x:Rat} (h:PC w cs x):cs.length=3∧∀u∈cs,u.oneCell'=true:=by
 obtain⟨g,a,n,c,A,N,D,rfl,_⟩:=h.cells
 refine⟨rfl,fun u hu=>?_⟩
 simp only[List.mem_cons,List.mem_nil_iff,or_false] at hu
 rcases hu with rfl|rfl|rfl<;>rfl
theorem choose_lt' {Q:Nat→List Value→Prop} {n:Nat} (h:∀i,i < n→∃y,Q i y):∃f:Nat→List Value,∀i,i < n→Q i (f i):=by
 refine⟨fun i=>if hi:i < n then Classical.choose (h i hi) else [],fun i hi=>?_⟩
 show Q i (if hi:i < n then Classical.choose (h i hi) else [])
 rw[dif_pos hi]
 exact Classical.choose_spec (h i hi)
theorem cw.base {α:Type} {base base' size:Nat} {T:TypeId} {R:World→List Value→α→Prop} {w:World} {v:Value} {l:List α} (h:cw base T size R w v l) (hb:base'≤base):cw base' T size R w v l:=by
 obtain⟨css,h1,h2,h3,e1,e2⟩:=h
 refine⟨css,h1,h2,h3,e1,?_⟩
 rcases e2 with e2|⟨g,cap,cur,rfl,hb',r⟩
 ·exact .inl e2
 exact .inr ⟨g,cap,cur,rfl,Nat.le_trans hb hb',r⟩
end Go.Proofs.YtidmjdmmpajooaaGreat
namespace Go.Proofs.YtidmjdmmpajooaaGreat
open Go.RowKit Dg
attribute [local go_sem ↓] Go.wp_at_zero Go.wp_at_succ
def IC (_:World) (cs:List Value) (x:Int):Prop:=cs=[.int .i64 x]
theorem IC.kept:ir IC:=fun _ _ _ _ h _=>h
end Go.Proofs.YtidmjdmmpajooaaGreat
namespace Go.Proofs.YtidmjdmmpajooaaGreat
open Go.RowKit Dg
attribute [local go_sem ↓] Go.wp_at_zero Go.wp_at_succ
end Go.Proofs.YtidmjdmmpajooaaGreat
namespace Go.Proofs.YtidmjdmmpajooaaGreat
open Go Go.Maps Go.RowKit Dg
section
variable {H:Type}
def Rd (D:DataW H) (f:Int→Nat):Prop:=IsMap D∧∀s,(has D (.int .i64 s)=true→(∀z,D.atKey (.int .i64 s) z=.lit (.int .i64 (f s)))∧0 < f s)∧(has D (.int .i64 s)=false→f s=0)
theorem Rd.nil:Rd (.map []:DataW H) (fun _=>0):=⟨isMap_empty,fun _=>⟨(fun h=>Bool.noConfusion (h:false=true)),(fun _=>rfl)⟩⟩
theorem Rd.put {D:DataW H} {f:Int→Nat} (h:Rd D f) (x:Int) {c:Nat} (hc:0 < c):Rd (D.put (.int .i64 x) (.lit (.int .i64 (c:Int)))) (fun s=>if s=x then c else f s):=by
 refine⟨h.1.put _ _,fun s=>?_⟩
 by_cases e:s=x
 ·subst e
  dsimp only
  rw[if_pos rfl]
  have hk:WideAt.IsKeyLit (Lit.int .i64 s):=trivial
  exact⟨fun _=>⟨fun z=>atKey_put_same h.1 hk _ z,hc⟩,fun h0=>by rw[has_put_same h.1 hk] at h0;cases h0⟩
 ·have hne:Lit.int .i64 s≠Lit.int .i64 x:=fun e'=>e (by injection e')
  dsimp only
  rw[if_neg e,has_put_other hne]
  obtain⟨a,b⟩:=h.2 s
  exact⟨fun h1=>⟨fun z=>by rw[atKey_put_other hne];exact (a h1).1 z,(a h1).2⟩,b⟩
theorem Rd.look {D:DataW H} {f:Int→Nat} (h:Rd D f) {s c:Int} (hc:D.atKey (.int .i64 s) (.lit (.int .i64 0))=.lit (.int .i64 c)):c=f s:=by
 obtain⟨a,b⟩:=h.2 s
 cases e:has D (.int .i64 s)
 ·rw[atKey_of_not_has e] at hc
  injection hc with hc;injection hc with _ hc
  rw[b e];omega
 ·rw[(a e).1] at hc
  injection hc with hc;injection hc with _ hc
  omega
end
structure Btw (B t:Nat) (w w':World):Prop where
 os:w'.os=w.os
 tape:w'.tape=w.tape
 output:w'.output=w.output
 size:w.heap.size≤w'.heap.size
 block:∀k,k < B→k≠t→w'.heap[k]?=w.heap[k]?
theorem Btw.refl (B t:Nat) (w:World):Btw B t w w:=⟨rfl,rfl,rfl,ag _,fun _ _ _=>rfl⟩
theorem Btw.trans {B t:Nat} {a b c:World} (h:Btw B t a b) (k:Btw B t b c):Btw B t a c:=⟨k.os.trans h.os,k.tape.trans h.tape,k.output.trans h.output,Nat.le_trans h.size k.size,fun i hi hn=>(k.block i hi hn).trans (h.block i hi hn)⟩
theorem Btw.below {B t:Nat} {w w':World} (h:Btw B t w w') {B':Nat} (h1:B'≤B) (h2:B'≤t):Below B' w w':=⟨h.os,h.tape,h.output,h.size,fun i hi=>h.block i (by omega) (by omega)⟩
theorem Btw.cell {B t:Nat} {w w':World} (h:Btw B t w w') {a:Addr} (h1:a.block < B) (h2:a.block≠t):w'.cell? a=w.cell? a:=World.cell?_of_block (h.block _ h1 h2)
theorem Btw.grown {B t:Nat} {w w':World} (h:Btw B t w w') {b:Nat} (h1:b < B) (h2:b≠t):w'.heap[b]?=w.heap[b]?:=h.block b h1 h2
end Go.Proofs.YtidmjdmmpajooaaGreat
namespace Go.Proofs.YtidmjdmmpajooaaGreat
open Go.RowKit Dg
end Go.Proofs.YtidmjdmmpajooaaGreat
namespace Go.Proofs.YtidmjdmmpajooaaGreat
open Go.RowKit Dg
def swL (L:List Rat) (j:Nat):List Rat:=(L.set (j + 1) (bj L j)).set j (bj L (j + 1))
def insP:Nat→List Rat→List Rat
 | 0,L=>L
 | j + 1,L=>if bj L (j + 1) < bj L j then insP j (swL L j) else L
def srtP (L:List Rat):Nat→List Rat
 | 0=>L
 | i + 1=>insP i (srtP L i)
theorem swL_len (L:List Rat) (j:Nat):(swL L j).length=L.length:=by simp[swL]
theorem insP_len:∀(j:Nat) (L:List Rat),(insP j L).length=L.length
 | 0,_=>rfl
 | j + 1,L=>by
  rw[insP]
  split
  ·rw[insP_len j,swL_len]
  ·rfl
theorem jf5 (L:List Rat):∀i,(srtP L i).length=L.length
 | 0=>rfl
 | i + 1=>by rw[srtP,insP_len,jf5 L i]
theorem insP_yes {j:Nat} {L:List Rat} (h:bj L (j + 1) < bj L j):insP (j + 1) L=insP j (swL L j):=by rw[insP,if_pos h]
theorem insP_no {j:Nat} {L:List Rat} (h:¬ bj L (j + 1) < bj L j):insP (j + 1) L=L:=by rw[insP,if_neg h]
theorem wm (A B:List Rat) (x:Rat):bj (A ++ x ::B) A.length=x:=by
 unfold bj
 rw[List.getD_eq_getElem?_getD,List.getElem?_append_right (ag _),Nat.sub_self];rfl
theorem swL_app (A B:List Rat) (y x:Rat):swL (A ++ y ::x ::B) A.length=A ++ x ::y ::B:=by
 unfold swL
 have e1:bj (A ++ y ::x ::B) (A.length + 1)=x:=by
  have:=wm (A ++ [y]) B x
  rw[List.length_append] at this
  simpa using this
 rw[wm,e1,List.set_append_right _ _ (by omega),show A.length + 1 - A.length=1 from by omega,List.set_append_right _ _ (by omega),Nat.sub_self]
 rfl
def insR (x:Rat):List Rat→List Rat
 | []=>[x]
 | y ::r=>if x < y then insR x r ++ [y] else r.reverse ++ [y,x]
theorem insP_insR (x:Rat):∀(r B:List Rat),insP r.length (r.reverse ++ x ::B)=insR x r ++ B
 | [],B=>rfl
 | y ::r,B=>by
  have e:(y ::r).reverse ++ x ::B=r.reverse ++ y ::x ::B:=by simp
  have h1:bj (r.reverse ++ y ::x ::B) (r.length + 1)=x:=by
   have:=wm (r.reverse ++ [y]) B x
   rw[List.length_append,List.length_reverse] at this
   simpa using this
  have h2:bj (r.reverse ++ y ::x ::B) r.length=y:=by
   have:=wm r.reverse (x ::B) y
   rwa [List.length_reverse] at this
  rw[e]
  show insP (r.length + 1) _=_
  by_cases c:x < y
  ·rw[insP_yes (by rw[h1,h2];exact c)]
   have:=swL_app r.reverse B y x
   rw[List.length_reverse] at this
   rw[this,insP_insR x r (y ::B),insR,if_pos c]
   simp
  ·rw[insP_no (by rw[h1,h2];exact c),insR,if_neg c]
   simp
theorem xz (x:Rat):∀r:List Rat,(insR x r).Perm (x ::r)
 | []=>.refl _
 | y ::r=>by
  rw[insR]
  split
  ·have h:=(xz x r).append_right [y]
   exact h.trans ((List.perm_append_singleton y (x ::r)).trans (.swap _ _ _))
  ·have h1:(r.reverse ++ [y,x]).Perm ([y,x] ++ r.reverse):=List.perm_append_comm
   have h2:([y,x] ++ r.reverse).Perm ([y,x] ++ r):=(List.reverse_perm r).append_left _
   exact (h1.trans h2).trans (.swap _ _ _)
theorem zf (x:Rat):∀r:List Rat,r.Pairwise (fun a b=>b≤a)→(insR x r).Pairwise (·≤·)
 | [],_=>by simp[insR]
 | y ::r,h=>by
  obtain⟨h1,h2⟩:=List.pairwise_cons.1 h
  rw[insR]
  split
  ·rename_i c
   refine List.pairwise_append.2 ⟨zf x r h2,by simp,fun a ha b hb=>?_⟩
   rw[List.mem_singleton] at hb
   subst hb
   rcases List.mem_cons.1 ((xz x r).mem_iff.1 ha) with rfl|ha
   ·exact Rat.le_of_lt c
   ·exact h1 a ha
  ·rename_i c
   have c':y≤x:=Rat.not_lt.1 c
   refine List.pairwise_append.2 ⟨List.pairwise_reverse.2 h2,by simpa using c',fun a ha b hb=>?_⟩
   have ha':=h1 a (List.mem_reverse.1 ha)
   rcases List.mem_cons.1 hb with rfl|hb
   ·exact ha'
   ·rw[List.mem_singleton] at hb
    subst hb
    exact Rat.le_trans ha' c'
theorem tu (L:List Rat):∀i,i≤L.length→(srtP L i).Perm L∧∃A B,srtP L i=A ++ B∧A.length=i∧A.Pairwise (·≤·)
 | 0,_=>⟨.refl _,[],L,rfl,rfl,by simp⟩
 | i + 1,h=>by
  obtain⟨hp,A,B,e,hl,hs⟩:=tu L i (by omega)
  have hlen:(A ++ B).length=L.length:=by rw[←e,jf5]
  rw[List.length_append] at hlen
  match B,hlen with
  | x ::B,_=>
   have h1:=insP_insR x A.reverse B
   rw[List.length_reverse,List.reverse_reverse,hl] at h1
   have hpm:=xz x A.reverse
   have hpm2:(insR x A.reverse ++ B).Perm (A ++ x ::B):=by
    refine (hpm.append_right B).trans ?_
    have:(x ::A.reverse ++ B).Perm (x ::(A ++ B)):=.cons _ ((List.reverse_perm A).append_right B)
    exact this.trans List.perm_middle.symm
   rw[srtP,e,h1]
   refine⟨hpm2.trans (e ▸ hp),insR x A.reverse,B,rfl,?_,zf x _ (List.pairwise_reverse.2 hs)⟩
   have:=hpm.length_eq
   simp at this
   omega
  | [],hlen=>simp at hlen;omega
def ym (L:List Rat):List Rat:=srtP L L.length
theorem yp (L:List Rat):(ym L).Perm L:=(tu L L.length (ag _)).1
theorem srtQ_sorted (L:List Rat):(ym L).Pairwise (·≤·):=by
 obtain⟨_,A,B,e,hl,hs⟩:=tu L L.length (ag _)
 have hlen:(A ++ B).length=L.length:=by rw[←e,jf5]
 rw[List.length_append] at hlen
 obtain rfl:B=[]:=List.length_eq_zero_iff.1 (by omega)
 rw[List.append_nil] at e
 unfold ym
 rw[e]
 exact hs
def atM (L:List Rat) (v:Rat):Nat:=L.countP (fun x=>decide (x≤v))
theorem ord_iff (v:Rat):∀(S:List Rat),S.Pairwise (·≤·)→∀r,r < S.length→(bj S r≤v↔r + 1≤atM S v)
 | [],_,r,h=>by simp at h
 | a ::t,hs,r,h=>by
  obtain⟨h1,h2⟩:=List.pairwise_cons.1 hs
  by_cases c:a≤v
  ·have e:atM (a ::t) v=atM t v + 1:=by unfold atM;rw[List.countP_cons_of_pos (by simpa using c)]
   rw[e]
   match r with
   | 0=>exact⟨fun _=>by omega,fun _=>c⟩
   | r + 1=>
    have:=ord_iff v t h2 r (by simpa using h)
    show bj t r≤v↔_
    rw[this]
    omega
  ·have e:atM (a ::t) v=0:=by
    unfold atM
    rw[List.countP_eq_zero]
    intro x hx
    rcases List.mem_cons.1 hx with rfl|hx
    ·simpa using c
    ·have:=h1 x hx
     simp only[decide_eq_true_eq]
     exact fun hv=>c (Rat.le_trans this hv)
   rw[e]
   constructor
   ·intro hv
    exfalso
    match r with
    | 0=>exact c hv
    | r + 1=>
     have hr:r < t.length:=by simpa using h
     have:=h1 (bj t r) (List.mem_of_getElem? (ia hr))
     exact c (Rat.le_trans this hv)
   ·intro hv;omega
theorem eq_of_le {a b:Rat} (h:∀v,a≤v↔b≤v):a=b:=Rat.le_antisymm ((h b).2 Rat.le_refl) ((h a).1 Rat.le_refl)
end Go.Proofs.YtidmjdmmpajooaaGreat
namespace Go.Proofs.YtidmjdmmpajooaaGreat
abbrev Edg:=Pt × Pt
def slK (l:List Pt):Nat→List Edg
 | 0=>[]
 | k + 1=>if (ptZ l k).1=(ptZ l ((k + 1) % l.length)).1 then slK l k else slK l k ++ [(ptZ l k,ptZ l ((k + 1) % l.length))]
def slE (l:List Pt):List Edg:=slK l l.length
def loE (e:Edg):Int:=min e.1.1 e.2.1
def hiE (e:Edg):Int:=max e.1.1 e.2.1
def crX (e f:Edg):Rat:=(e.1.1:Rat) + ((crZ (mnZ f.1 e.1) (mnZ f.2 f.1):Int):Rat) / ((crZ (mnZ e.2 e.1) (mnZ f.2 f.1):Int):Rat) * ((mnZ e.2 e.1).1:Rat)
def crB (e f:Edg):Bool:=!decide (crZ (mnZ e.2 e.1) (mnZ f.2 f.1)=0) && (!decide (crX e f < (loE e:Rat)) && (!decide ((hiE e:Rat) < crX e f) && (!decide (crX e f < (loE f:Rat)) && !decide ((hiE f:Rat) < crX e f))))
def crL (e:Edg) (q:List Edg):List Rat:=q.flatMap fun f=>if crB e f=true then [crX e f] else []
def seL (e:Edg) (r:List (List Edg)):List Rat:=[(e.1.1:Rat),(e.2.1:Rat)] ++ r.flatMap (crL e)
def qr:List (List Edg)→List Rat
 | []=>[]
 | p ::r=>p.flatMap (fun e=>seL e r) ++ qr r
def cpQ:List Rat→List Rat
 | a ::b ::r=>if a=b then cpQ (b ::r) else a ::cpQ (b ::r)
 | l=>l
def xsQ (l:List (List Edg)):List Rat:=cpQ (ym (qr l))
def atE (e:Edg) (x:Rat):Rat:=(e.1.2:Rat) + (x - (e.1.1:Rat)) * (((mnZ e.2 e.1).2:Rat) / ((mnZ e.2 e.1).1:Rat))
def ysQ (p:List Edg) (x:Rat):List Rat:=p.flatMap fun e=>if (loE e:Rat) < x∧x < (hiE e:Rat) then [atE e x] else []
def prQ:List Rat→List (Rat × Rat)
 | a ::b ::r=>(a,b) ::prQ r
 | _=>[]
def spQ (p:List Edg) (x:Rat):List (Rat × Rat):=prQ (ym (ysQ p x))
def lnF (s:Rat × Rat) (x:Rat × Rat):Rat × Rat:=
 let e:=if s.2 < x.1 then x.1 else s.2
 if e < x.2 then (s.1 + (x.2 - e),x.2) else (s.1,e)
def lnQ:List (Rat × Rat)→Rat
 | []=>0
 | x ::r=>(r.foldl lnF (if x.1 < x.2 then (x.2 - x.1,x.2) else (0,x.1))).1
def insS (x:Rat × Rat):List (Rat × Rat)→List (Rat × Rat)
 | []=>[x]
 | y ::r=>if x.1 < y.1 then x ::y ::r else y ::insS x r
def xi (l:List (Rat × Rat)):List (Rat × Rat):=l.foldl (fun a x=>insS x a) []
def rr (ps:List (List Edg)) (a b:Rat):Rat:=(b - a) * lnQ (xi (ps.flatMap fun p=>spQ p ((a + b) * (1 / 2))))
def sumQ (ps:List (List Edg)):List Rat→Rat
 | a ::b ::r=>rr ps a b + sumQ ps (b ::r)
 | _=>0
def uniQ (l:List (List Pt)):Rat:=sumQ (l.map slE) (xsQ (l.map slE)) * 2
def tri:List Pt:=[(0,0),(3,0),(0,2)]
def squ:List Pt:=[(1,0),(2,0),(2,1),(1,1)]
theorem uni_sample:uniQ [tri,squ]=37 / 6:=by decide +kernel
theorem jc1:fl tri=0∧fl squ=0∧twZ tri=6∧twZ squ=2:=by decide +kernel
end Go.Proofs.YtidmjdmmpajooaaGreat
