/-
  The reference's words for a step that runs into an obstacle.
-/
import Derived.Test.YtbnomdlojmgigaaGreatPkW16W
set_option linter.unusedSimpArgs false
set_option linter.unusedVariables false
set_option maxRecDepth 100000
set_option maxHeartbeats 4000000
namespace Go.Proofs.YtbnomdlojmgigaaGreat
open Go.RowKit Dg
attribute [local go_sem ↓] Go.wp_at_zero Go.wp_at_succ
theorem wy (n:Int) (w:World) (h:Wn 9223372036854775807 n):
  Calls Tryz.prog 94 #[.int .i64 n] w (rx w (n:Rat)):=by
 have hs:=Below.refl w.heap.size w
 go_enter Tryz.func94,Tryz.ntmps94
 go_wp2_with fail
 refine Calls.abs ?_
 intro w1 hW
 have hG:Gr [] w w1:=by rw[hW];exact (Gr.refl _ _).alloc
 have Bg:=hs.size
 have Blk:Bx w1 (w.heap.size) 53 #[.bool false,.slice none 0 0,.slice none 0 0]:=by rw[hW];exact (Bx.new0 _ _ _)
 replace hs:=hs.trans (hG.below0 hs.size)
 clear hW hG
 have Bf:=Blk.lt
 with_reducible refine (zl n _ (h.lo64 (by decide)) (h.hi (by decide))).mono ?_
 rintro e w2 ⟨_,rfl,h1,hb⟩
 obtain⟨Ba,B7,B9,B8,B4,B6,B5,rfl⟩:=h1.shape
 revert Blk;refine mS hs hb ?_;clear hs hb;intro hs Blk
 refine Blk.k3fl fun B1 B2 B3 fk Lk=>?_
 go_wp2
 clear B1 B2 B3 fk Lk
 refine bodyPost.abs ?_
 intro w3 hW
 have hG:Gr [w.heap.size] w2 w3:=by rw[hW];exact (Gr.refl _ _).set.set.set
 have hsz:=hs.size
 have lk:=Blk.lt
 have hk:=hG.keep ⟨⟨_,Blk.ty,by decide⟩,True.intro⟩
 have Bb:Bx w3 (w.heap.size) 53 #[.bool Ba,.slice B7 B9 B8,.slice B4 B6 B5]:=by rw[hW];exact Blk.set3
 replace hs:=hs.trans (hG.d1 hs.size)
 replace Blk:=Bb
 clear Bb
 replace h1:=h1.keep hk
 clear hW hG hk hsz lk
 refine Blk.k3 fun B1 B2 B3=>?_
 exact bodyPost_ret (v:=.agg #[.bool Ba,.slice B7 B9 B8,.slice B4 B6 B5]) (by simp[results,Tryz.results94,go_sem,B1,B2,B3]) rfl ⟨_,rfl,h1,hs⟩
theorem r2_quotient (vx:Value) (x:Rat) (vy:Value) (y:Rat) (w:World) (hx:RV w vx x) (sx:Mid x) (hy:RV w vy y) (sy:Mid y) (hy0:y≠0):
  Calls Tryz.prog 96 #[vx,vy] w (rx w (x / y)):=by
 obtain⟨shx,ahx,nhx,chx,Ahx,Nhx,Chx,rfl⟩:=hx.shape
 obtain⟨shy,ahy,nhy,chy,Ahy,Nhy,Chy,rfl⟩:=hy.shape
 have hs:=Below.refl w.heap.size w
 go_enter Tryz.func96,Tryz.ntmps96
 go_wp2_with fail
 refine Calls.abs ?_
 intro w1 hW
 have hG:Gr [] w w1:=by rw[hW];exact (Gr.refl _ _).alloc.alloc.alloc
 have hk:=hG.keep True.intro
 have Bg:=hs.size
 have Bc:Bx w1 (w.heap.size) 53 #[.bool shx,.slice ahx nhx chx,.slice Ahx Nhx Chx]:=by rw[hW];exact (((Bx.new0 _ _ _).alloc _).alloc _)
 have Bd:Bx w1 (w.heap.size + 1) 53 #[.bool shy,.slice ahy nhy chy,.slice Ahy Nhy Chy]:=by rw[hW];exact ((Bx.new0 _ _ _).alloc _)
 have Blk:Bx w1 (w.heap.size + 1 + 1) 53 #[.bool false,.slice none 0 0,.slice none 0 0]:=by rw[hW];exact (Bx.new0 _ _ _)
 replace hs:=hs.trans (hG.below0 hs.size)
 revert hy;revert hx;refine ke hk ?_;intro hx hy
 clear hW hG hk
 have Bf:=Blk.lt
 with_reducible refine (rDiv hx hy (SzQ.fit sx) (SzQ.fit sy) hy0).mono ?_
 rintro e w2 ⟨_,rfl,h1,hb⟩
 obtain⟨Ba,B7,B9,B8,B4,B6,B5,rfl⟩:=h1.shape
 revert hy;revert hx;revert Blk;revert Bd;revert Bc;refine mS hs hb ?_;clear hs hb;intro hs Bc Bd Blk hx hy
 go_upto_region 2 with fail
 refine Code.abs ?_
 intro w3 hW
 have hG:Gr [] w2 w3:=by rw[hW];exact (Gr.refl _ _).alloc
 have sz_w3:=hs.size
 have na_w3:=Bc.lt
 have nb_w3:=Bd.lt
 have nk_w3:=Blk.lt
 have Be:Bx w3 (w2.heap.size) 53 #[.bool Ba,.slice B7 B9 B8,.slice B4 B6 B5]:=by rw[hW];exact (Bx.new0 _ _ _)
 replace hs:=hs.trans (hG.below0 hs.size)
 revert h1 Bc Bd Blk hx hy;refine g0 hG ?_;intro h1 Bc Bd Blk hx hy
 clear hW hG
 have hz_w3:=Be.lt
 refine Be.k3l fun Bh Bi Bj Lq=>?_
 refine Blk.k3fl fun B1 B2 B3 fk Lk=>?_
 go_wp2
 clear Bh Bi Bj B1 B2 B3 fk Lq Lk
 refine bodyPost.abs ?_
 intro w4 hW
 have hG:Gr [w.heap.size + 1 + 1] w3 w4:=by rw[hW];exact (Gr.refl _ _).set.set.set
 have hsz:=hs.size
 have lk:=Blk.lt
 have hk:=hG.keep ⟨⟨_,Blk.ty,by decide⟩,True.intro⟩
 have Bb:Bx w4 (w.heap.size + 1 + 1) 53 #[.bool Ba,.slice B7 B9 B8,.slice B4 B6 B5]:=by rw[hW];exact Blk.set3
 replace hs:=hs.trans (hG.d1 hs.size)
 replace Bc:=hG.b1 Bc
 replace Bd:=hG.b1 Bd
 replace Be:=hG.b1 Be
 replace Blk:=Bb
 clear Bb
 revert h1 hx hy;refine ke hk ?_;intro h1 hx hy
 clear hW hG hk hsz lk
 refine Blk.k3 fun B1 B2 B3=>?_
 exact bodyPost_ret (v:=.agg #[.bool Ba,.slice B7 B9 B8,.slice B4 B6 B5]) (by simp[results,Tryz.results96,go_sem,B1,B2,B3]) rfl ⟨_,rfl,h1,hs⟩
end Go.Proofs.YtbnomdlojmgigaaGreat
namespace Go.Proofs.YtbnomdlojmgigaaGreat
def frZ (p q:Pt):Int:=dtZ (mnZ q p) (mnZ q p)
def dsQ (a b q:Pt):Rat:=
 if dtZ (mnZ q a) (mnZ b a)≤0 then (frZ a q:Rat) else if dtZ (mnZ b a) (mnZ b a)≤dtZ (mnZ q a) (mnZ b a) then (frZ b q:Rat) else ((crZ (mnZ b a) (mnZ q a):Int):Rat) * ((crZ (mnZ b a) (mnZ q a):Int):Rat) / ((dtZ (mnZ b a) (mnZ b a):Int):Rat)
theorem fr_zero {p q:Pt} (h:frZ p q=0):q=p:=by
 unfold frZ dtZ mnZ at h
 simp only at h
 have h1:=yg (q.1 - p.1);have h2:=yg (q.2 - p.2)
 have e1:(q.1 - p.1) * (q.1 - p.1)=0:=by omega
 have e2:(q.2 - p.2) * (q.2 - p.2)=0:=by omega
 refine Prod.ext ?_ ?_
 ·rcases Int.mul_eq_zero.1 e1 with h|h<;>omega
 ·rcases Int.mul_eq_zero.1 e2 with h|h<;>omega
theorem fr_nn (p q:Pt):0≤frZ p q:=by
 unfold frZ dtZ mnZ
 have h1:=yg (q.1 - p.1);have h2:=yg (q.2 - p.2)
 simp only;omega
theorem on_a (a b:Pt):onZ a b a=true:=by
 rw[←mw]
 unfold hsZ sdZ
 have e1:crZ (mnZ b a) (mnZ a a)=0:=by unfold crZ mnZ;simp
 have e2:dtZ (mnZ a a) (mnZ b a)=0:=by unfold dtZ mnZ;simp
 rw[e1,e2];rfl
theorem on_b (a b:Pt):onZ a b b=true:=by
 rw[←mw]
 unfold hsZ sdZ
 have e1:crZ (mnZ b a) (mnZ b a)=0:=by unfold crZ;rw[Int.mul_comm];omega
 have e2:dtZ (mnZ a b) (mnZ b b)=0:=by unfold dtZ mnZ;simp
 rw[e1,e2];rfl
theorem ds_nn (a b q:Pt):0≤dsQ a b q:=by
 unfold dsQ
 split
 ·exact Rat.intCast_nonneg.2 (fr_nn _ _)
 ·split
  ·exact Rat.intCast_nonneg.2 (fr_nn _ _)
  ·have h1:(0:Rat)≤((crZ (mnZ b a) (mnZ q a):Int):Rat) * ((crZ (mnZ b a) (mnZ q a):Int):Rat):=by
    rw[←Rat.intCast_mul];exact Rat.intCast_nonneg.2 (yg _)
   have h2:(0:Rat)≤((dtZ (mnZ b a) (mnZ b a):Int):Rat):=Rat.intCast_nonneg.2 (fr_nn a b)
   by_cases h3:((dtZ (mnZ b a) (mnZ b a):Int):Rat)=0
   ·rw[h3,Rat.div_def,Rat.inv_zero,Rat.mul_zero];exact Rat.le_refl
   ·refine Rat.not_lt.1 fun h4=>?_
    have:=(Rat.div_lt_iff (show 0 < ((dtZ (mnZ b a) (mnZ b a):Int):Rat) by grind)).1 h4
    rw[Rat.zero_mul] at this
    grind
theorem ds_on {a b q:Pt} (h:dsQ a b q=0):onZ a b q=true:=by
 unfold dsQ at h
 split at h
 ·rename_i h1
  have:=fr_zero (Rat.intCast_eq_zero_iff.1 h)
  rw[this];exact on_a a b
 ·rename_i h1
  split at h
  ·rename_i h2
   have:=fr_zero (Rat.intCast_eq_zero_iff.1 h)
   rw[this];exact on_b a b
  ·rename_i h2
   have hd:(0:Int) < dtZ (mnZ b a) (mnZ b a):=by omega
   have hdq:((dtZ (mnZ b a) (mnZ b a):Int):Rat)≠0:=fun e=>by
    have:=Rat.intCast_eq_zero_iff.1 e;omega
   have hc:crZ (mnZ b a) (mnZ q a)=0:=by
    have e:((crZ (mnZ b a) (mnZ q a):Int):Rat) * ((crZ (mnZ b a) (mnZ q a):Int):Rat)=0:=by grind
    rw[←Rat.intCast_mul] at e
    rcases Int.mul_eq_zero.1 (Rat.intCast_eq_zero_iff.1 e) with h|h<;>exact h
   rw[←mw]
   unfold hsZ sdZ
   rw[hc]
   have key:∀u1 u2 d1 d2:Int,d1 * u2 - d2 * u1=0→0 < u1 * d1 + u2 * d2→u1 * d1 + u2 * d2 < d1 * d1 + d2 * d2→(-u1) * (d1 - u1) + (-u2) * (d2 - u2)≤0:=by
    intro u1 u2 d1 d2 h0 h1 h2
    have e:(u1 * u1 + u2 * u2) * (d1 * d1 + d2 * d2)=(u1 * d1 + u2 * d2) * (u1 * d1 + u2 * d2):=by grind
    have h3:¬ (u1 * d1 + u2 * d2 < u1 * u1 + u2 * u2):=fun h3=>by
     have m1:(u1 * d1 + u2 * d2) * (d1 * d1 + d2 * d2)≤(u1 * u1 + u2 * u2) * (d1 * d1 + d2 * d2):=Int.mul_le_mul_of_nonneg_right (by omega) (by omega)
     have m2:(u1 * d1 + u2 * d2) * (u1 * d1 + u2 * d2) < (u1 * d1 + u2 * d2) * (d1 * d1 + d2 * d2):=Int.mul_lt_mul_of_pos_left h2 h1
     omega
    have e2:(-u1) * (d1 - u1) + (-u2) * (d2 - u2)=(u1 * u1 + u2 * u2) - (u1 * d1 + u2 * d2):=by grind
    omega
   have:=key (mnZ q a).1 (mnZ q a).2 (mnZ b a).1 (mnZ b a).2 hc (by unfold dtZ at h1;omega) (by unfold dtZ at h2;omega)
   have e3:dtZ (mnZ a q) (mnZ b q)=(-(mnZ q a).1) * ((mnZ b a).1 - (mnZ q a).1) + (-(mnZ q a).2) * ((mnZ b a).2 - (mnZ q a).2):=by
    unfold dtZ mnZ
    simp only
    grind
   rw[Bool.and_eq_true,decide_eq_true_eq,decide_eq_true_eq]
   exact⟨rfl,by rw[e3];exact this⟩
def bdQ (l:List Pt) (q:Pt):Nat→Rat
 | 0=>0
 | k + 1=>if k=0 then dsQ (ptZ l k) (ptZ l ((k + 1) % l.length)) q else if dsQ (ptZ l k) (ptZ l ((k + 1) % l.length)) q < bdQ l q k then dsQ (ptZ l k) (ptZ l ((k + 1) % l.length)) q else bdQ l q k
theorem bd_pos {l:List Pt} {q:Pt}:∀k,1≤k→onB l q k=false→0 < bdQ l q k
 | 0,h,_=>absurd h (by omega)
 | k + 1,_,h=>by
  have h':(onB l q k || onZ (ptZ l k) (ptZ l ((k + 1) % l.length)) q)=false:=h
  rw[Bool.or_eq_false_iff] at h'
  have hp:0 < dsQ (ptZ l k) (ptZ l ((k + 1) % l.length)) q:=by
   have h1:=ds_nn (ptZ l k) (ptZ l ((k + 1) % l.length)) q
   refine Decidable.byContradiction fun hc=>?_
   have:=ds_on (a:=ptZ l k) (b:=ptZ l ((k + 1) % l.length)) (q:=q) (by grind)
   rw[h'.2] at this;cases this
  show 0 < (if k=0 then _ else _)
  split
  ·exact hp
  ·split
   ·exact hp
   ·exact bd_pos k (by omega) h'.1
def diQ (l:List Pt) (q:Pt):Rat:=if 0≤whZ l q then 0 else bdQ l q l.length
theorem di_zero {l:List Pt} {q:Pt} (hl:1≤l.length):diQ l q=0↔0≤whZ l q:=by
 unfold diQ
 constructor
 ·intro h
  split at h
  ·assumption
  ·rename_i hc
   have ho:onB l q l.length=false:=by
    refine Bool.eq_false_iff.2 fun ho=>hc ?_
    unfold whZ;rw[if_pos ho];exact Int.le_refl _
   have:=bd_pos l.length hl ho
   rw[h] at this
   exact absurd this Rat.lt_irrefl
 ·intro h;rw[if_pos h]
end Go.Proofs.YtbnomdlojmgigaaGreat
