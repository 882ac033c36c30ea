/-
  plane: the window with the greatest area of gaps.
-/
import Derived.Test.YtidmjdmmpajooaaGreatWn5W
set_option linter.unusedSimpArgs false
set_option linter.unusedVariables false
set_option maxRecDepth 100000
set_option maxHeartbeats 4000000
namespace Go.Proofs.YtidmjdmmpajooaaGreat
open Go.RowKit Dg
attribute [local go_sem ↓] Go.wp_at_zero Go.wp_at_succ
theorem pair_info:(Tryz.prog.info? 60).map (fun i=>(i.zero,i.size,i.bytes))=some (some (.agg #[.int .i64 0,.int .i64 0]),2,16):=by kernel_rfl
def clR (X Y:List Int) (L:List Bxx) (l:List Pt) (i:Nat):Nat→List Pt
 | 0=>l
 | k + 1=>if inK X Y L i k L.length=true then clR X Y L l i k ++ [((i:Int),(k:Int))] else clR X Y L l i k
def clS (X Y:List Int) (L:List Bxx):Nat→List Pt
 | 0=>[]
 | i + 1=>clR X Y L (clS X Y L i) i (Y.length - 1)
theorem clR_len (X Y:List Int) (L:List Bxx) (l:List Pt) (i:Nat):∀k,(clR X Y L l i k).length≤l.length + k
 | 0=>ag _
 | k + 1=>by
  have ih:=clR_len X Y L l i k
  show (if _ then _ else _:List Pt).length≤_
  split
  ·rw[List.length_append,List.length_singleton];omega
  omega
theorem clS_len (X Y:List Int) (L:List Bxx) (hY:Y.length≤18):∀i,(clS X Y L i).length≤17 * i
 | 0=>ag _
 | i + 1=>by
  have ih:=clS_len X Y L hY i
  have h:=clR_len X Y L (clS X Y L i) i (Y.length - 1)
  show (clR X Y L (clS X Y L i) i (Y.length - 1)).length≤_
  omega
def okC (n m:Nat) (c:Pt):Prop:=∃i k:Nat,c=((i:Int),(k:Int))∧i < n∧k < m
theorem clR_ok {X Y:List Int} {L:List Bxx} {l:List Pt} {i n m:Nat} (hl:∀c∈l,okC n m c) (hi:i < n):∀k,k≤m→∀c∈clR X Y L l i k,okC n m c
 | 0,_,c,hc=>hl c hc
 | k + 1,hk,c,hc=>by
  have hc':c∈(if inK X Y L i k L.length=true then clR X Y L l i k ++ [((i:Int),(k:Int))] else clR X Y L l i k):=hc
  split at hc'
  ·rcases List.mem_append.1 hc' with hc'|hc'
   ·exact clR_ok hl hi k (by omega) c hc'
   exact⟨i,k,List.mem_singleton.1 hc',hi,by omega⟩
  exact clR_ok hl hi k (by omega) c hc'
theorem clS_ok (X Y:List Int) (L:List Bxx):∀i,i≤X.length - 1→∀c∈clS X Y L i,okC (X.length - 1) (Y.length - 1) c
 | 0,_,c,hc=>by cases hc
 | i + 1,hi,c,hc=>clR_ok (clS_ok X Y L i (by omega)) (by omega) _ (ag _) c hc
def smC (A B:List Int) (C:List Pt):Nat→Int
 | 0=>0
 | j + 1=>smC A B C j + nthI A (ptZ C j).1.toNat * nthI B (ptZ C j).2.toNat
theorem smC_bd {A B:List Int} {C:List Pt} (hA:∀j,Wn 4194304 (nthI A j)) (hB:∀j,Wn 4194304 (nthI B j)):∀j:Nat,Wn ((j:Int) * 17592186044416) (smC A B C j)
 | 0=>by show Wn _ 0;exact⟨by omega,by omega⟩
 | j + 1=>by
  have h:=(smC_bd (C:=C) hA hB j).add (Wn.mul (hA (ptZ C j).1.toNat) (hB (ptZ C j).2.toNat))
  exact h.mono (by push_cast;omega)
theorem prL_wn {X:List Int} {lo hi:Int} (h1: -4000000≤lo) (h2:hi≤4000000) (h3:lo≤hi) (hX:∀j,Wn 2097152 (nthI X j)):∀k,∀x∈prL X lo hi k,Wn 4194304 x
 | 0,x,hx=>by cases hx
 | k + 1,x,hx=>by
  rcases List.mem_append.1 hx with hx|hx
  ·exact prL_wn h1 h2 h3 hX k x hx
  rw[List.mem_singleton.1 hx]
  have a:=hX k
  have b:=hX (k + 1)
  unfold Wn at a b ⊢
  unfold wdZ
  omega
def pX (L:List Bxx):List Int:=axZ (exX L L.length)
def pY (L:List Bxx):List Int:=axZ (exY L L.length)
def pC (L:List Bxx):List Pt:=clS (pX L) (pY L) L ((pX L).length - 1)
def pgA (L:List Bxx) (ww hh x y:Int):Int:=smC (prL (pX L) x (x + ww) ((pX L).length - 1)) (prL (pY L) y (y + hh) ((pY L).length - 1)) (pC L) (pC L).length
def pPX (L:List Bxx) (p q:Pt) (ww:Int):List Int:=plK2 (pX L) p.1 q.1 ww
def pPY (L:List Bxx) (p q:Pt) (hh:Int):List Int:=plK2 (pY L) p.2 q.2 hh
def winP (L:List Bxx) (p q:Pt) (ww hh:Int):WSt:=if wnE L p q ww hh=0 then wsS (pgA L ww hh) ww hh (pPX L p q ww) (pPY L p q hh) (pPX L p q ww).length else (((0,0),(0,0)),0)
theorem wsR_stop {A:Int→Int→Int} {ww hh W:Int} (hA:∀x y,A x y≤W) {X Y:List Int} {i:Nat} {s:WSt} (h:s.2=W):∀k,wsR A ww hh X Y i s k=s
 | 0=>rfl
 | k + 1=>by
  show stW A ww hh _ _ (wsR A ww hh X Y i s k)=s
  rw[wsR_stop hA h k]
  exact st_no (by have:=hA (nthI X i) (nthI Y k);omega)
theorem wsR_from {A:Int→Int→Int} {ww hh W:Int} (hA:∀x y,A x y≤W) {X Y:List Int} {i:Nat} {s t:WSt} {k:Nat} (ht:t=wsR A ww hh X Y i s k) (h:t.2=W):∀m,k≤m→wsR A ww hh X Y i s m=t
 | 0,hm=>by
  obtain rfl:k=0:=by omega
  exact ht.symm
 | m + 1,hm=>by
  by_cases e:k=m + 1
  ·subst e;exact ht.symm
  show stW A ww hh _ _ (wsR A ww hh X Y i s m)=t
  rw[wsR_from hA ht h m (by omega)]
  exact st_no (by have:=hA (nthI X i) (nthI Y m);omega)
theorem wsS_from {A:Int→Int→Int} {ww hh W:Int} (hA:∀x y,A x y≤W) {X Y:List Int} {t:WSt} {i:Nat} (ht:t=wsS A ww hh X Y i) (h:t.2=W):∀m,i≤m→wsS A ww hh X Y m=t
 | 0,hm=>by
  obtain rfl:i=0:=by omega
  exact ht.symm
 | m + 1,hm=>by
  by_cases e:i=m + 1
  ·subst e;exact ht.symm
  show wsR A ww hh X Y m (wsS A ww hh X Y m) Y.length=t
  rw[wsS_from hA ht h m (by omega)]
  exact wsR_stop hA h _
theorem pl_cov (L:List Bxx) (X Y:List Int) (i k gl gx gy xb xo xc yb yo yc cl:Nat) (ao:Option Addr) (w:World) (hl:Bxs w (.slice ao L.length cl) L) (h4:L.length≤24) (hbl:Bx w gl 22 #[.slice ao L.length cl]) (hbx:Bx w gx 53 #[.slice (some ⟨xb,xo,none⟩) X.length xc]) (hby:Bx w gy 53 #[.slice (some ⟨yb,yo,none⟩) Y.length yc])
  (hrx:Rows 1 3 IC w (.slice (some ⟨xb,xo,none⟩) X.length xc) X) (hry:Rows 1 3 IC w (.slice (some ⟨yb,yo,none⟩) Y.length yc) Y) (hi1:i + 1 < X.length) (hk1:k + 1 < Y.length) (hX2:X.length≤100) (hY2:Y.length≤100):
  Calls Tryz.prog 27 #[.int .i64 i,.int .i64 k,.pointer (some ⟨gl,0,none⟩),.pointer (some ⟨gx,0,none⟩),.pointer (some ⟨gy,0,none⟩)] w (fj w (.bool (inK X Y L i k L.length))):=by
 have hs:=Below.refl w.heap.size w
 have B0:=hbl
 have B1:=hbx
 have B2:=hby
 have HRX:=ae hrx
 have HRY:=ae hry
 have HO:=ae hl
 clear hrx hry hbl hbx hby hl
 go_enter Tryz.func27,Tryz.ntmps27
 refine B0.k1l fun B3 Lbgl=>?_
 go_wp2_with fail
 clear B3 Lbgl
 refine Calls.abs ?_
 intro w1 hW
 have hG:Gr [] w w1:=by rw[hW];exact (Gr.refl _ _).alloc.alloc
 have sz_w1:=hs.size
 have nbgl_w1:=B0.lt
 have nbgx_w1:=B1.lt
 have nbgy_w1:=B2.lt
 have Bli:Bx w1 (w.heap.size) 3 #[.int .i64 ((i:Int))]:=by rw[hW];exact ((Bx.new0 _ _ _).alloc _)
 have Blk:Bx w1 (w.heap.size + 1) 3 #[.int .i64 ((k:Int))]:=by rw[hW];exact (Bx.new0 _ _ _)
 replace hs:=hs.trans (hG.below0 hs.size)
 revert B0 B1 B2;refine g0 hG ?_;intro B0 B1 B2
 clear hW hG
 have hz_w1:=Blk.lt
 with_reducible refine (pl_ctf _ L X Y i k gx (w.heap.size) gy (w.heap.size + 1) xb xo xc yb yo yc _ (be.mono IE.kept HO.out hs) (by omega) B1 Bli B2 Blk (HRX.out.mono IC.kept hs) (HRY.out.mono IC.kept hs) (by omega) (by omega) (by omega) (by omega)).mono ?_
 rintro e w2 ⟨rfl,hb⟩
 revert Bli Blk B0 B1 B2;refine mS hs hb ?_;clear hs hb;intro hs Bli Blk B0 B1 B2
 obtain⟨cv,Hcv⟩:∃b:Bool,b=inK X Y L i k L.length:=⟨_,rfl⟩
 rw[←Hcv]
 replace Hcv:=ae Hcv
 go_wp2
 go_ret
 exact⟨by rw[Hcv.out];rfl,hs⟩
end Go.Proofs.YtidmjdmmpajooaaGreat
