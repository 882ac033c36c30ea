/-
  The reference's words for windows: the area of what boxes leave of a box.
-/
import Derived.Test.YtidmjdmmpajooaaGreatWn1W
import Derived.Test.YtidmjdmmpajooaaGreatPlMW
set_option linter.unusedSimpArgs false
set_option linter.unusedVariables false
set_option maxRecDepth 100000
set_option maxHeartbeats 16000000
namespace Go.Proofs.YtidmjdmmpajooaaGreat
open Go.RowKit Dg
attribute [local go_sem ↓] Go.wp_at_zero Go.wp_at_succ
def inJ (X Y:List Int) (o:Bxx) (i k:Nat):Bool:=decide (o.1.1≤nthI X i) && (decide (nthI X (i + 1)≤o.2.1) && (decide (o.1.2≤nthI Y k) && decide (nthI Y (k + 1)≤o.2.2)))
def inK (X Y:List Int) (L:List Bxx) (i k:Nat):Nat→Bool
 | 0=>false
 | j + 1=>inK X Y L i k j || inJ X Y (bxZ L j) i k
theorem inK_yes {X Y:List Int} {L:List Bxx} {i k j:Nat} (h:inK X Y L i k j=true):inK X Y L i k (j + 1)=true:=by
 show (inK X Y L i k j || _)=true
 rw[h];rfl
theorem inK_no {X Y:List Int} {L:List Bxx} {i k j:Nat} (h:¬ inK X Y L i k j=true) {b:Bool} (hb:inJ X Y (bxZ L j) i k=b):inK X Y L i k (j + 1)=b:=by
 show (inK X Y L i k j || _)=b
 rw[Bool.eq_false_iff.2 h,hb];rfl
def gcZ (X Y:List Int) (L:List Bxx) (p q:Pt) (i k:Nat):Int:=
 if nthI X i < p.1∨q.1 < nthI X (i + 1)∨nthI Y k < p.2∨q.2 < nthI Y (k + 1) then 0
 else if inK X Y L i k L.length=true then (nthI X (i + 1) - nthI X i) * (nthI Y (k + 1) - nthI Y k) else 0
theorem gc_out {X Y:List Int} {L:List Bxx} {p q:Pt} {i k:Nat} (h:nthI X i < p.1∨q.1 < nthI X (i + 1)∨nthI Y k < p.2∨q.2 < nthI Y (k + 1)):gcZ X Y L p q i k=0:=if_pos h
theorem gc_no {X Y:List Int} {L:List Bxx} {p q:Pt} {i k:Nat} (h:¬ inK X Y L i k L.length=true):gcZ X Y L p q i k=0:=by
 unfold gcZ
 by_cases c:nthI X i < p.1∨q.1 < nthI X (i + 1)∨nthI Y k < p.2∨q.2 < nthI Y (k + 1)
 ·rw[if_pos c]
 rw[if_neg c,if_neg h]
theorem gc_in {X Y:List Int} {L:List Bxx} {p q:Pt} {i k:Nat} (h:¬ (nthI X i < p.1∨q.1 < nthI X (i + 1)∨nthI Y k < p.2∨q.2 < nthI Y (k + 1))) (hi:inK X Y L i k L.length=true):gcZ X Y L p q i k=(nthI X (i + 1) - nthI X i) * (nthI Y (k + 1) - nthI Y k):=(if_neg h).trans (if_pos hi)
def gRw (X Y:List Int) (L:List Bxx) (p q:Pt) (i:Nat):Nat→Int
 | 0=>0
 | k + 1=>gRw X Y L p q i k + gcZ X Y L p q i k
def gSm (X Y:List Int) (L:List Bxx) (p q:Pt):Nat→Int
 | 0=>0
 | i + 1=>gSm X Y L p q i + gRw X Y L p q i (Y.length - 1)
def gX (L:List Bxx) (p q:Pt):Nat→List Int
 | 0=>[p.1,q.1]
 | i + 1=>putZ (putZ (gX L p q i) (bxZ L i).1.1) (bxZ L i).2.1
def gY (L:List Bxx) (p q:Pt):Nat→List Int
 | 0=>[p.2,q.2]
 | i + 1=>putZ (putZ (gY L p q i) (bxZ L i).1.2) (bxZ L i).2.2
def gpZ (L:List Bxx) (p q:Pt):Int:=gSm (gX L p q L.length) (gY L p q L.length) L p q ((gX L p q L.length).length - 1)
theorem gX_len (L:List Bxx) (p q:Pt):∀i,2≤(gX L p q i).length∧(gX L p q i).length≤2 + 2 * i
 | 0=>⟨ag _,ag _⟩
 | i + 1=>by
  have ih:=gX_len L p q i
  have h1:=putZ_len (bxZ L i).1.1 (gX L p q i)
  have h2:=putZ_len (bxZ L i).2.1 (putZ (gX L p q i) (bxZ L i).1.1)
  show 2≤(putZ (putZ (gX L p q i) (bxZ L i).1.1) (bxZ L i).2.1).length∧(putZ (putZ (gX L p q i) (bxZ L i).1.1) (bxZ L i).2.1).length≤_
  omega
theorem gY_len (L:List Bxx) (p q:Pt):∀i,2≤(gY L p q i).length∧(gY L p q i).length≤2 + 2 * i
 | 0=>⟨ag _,ag _⟩
 | i + 1=>by
  have ih:=gY_len L p q i
  have h1:=putZ_len (bxZ L i).1.2 (gY L p q i)
  have h2:=putZ_len (bxZ L i).2.2 (putZ (gY L p q i) (bxZ L i).1.2)
  show 2≤(putZ (putZ (gY L p q i) (bxZ L i).1.2) (bxZ L i).2.2).length∧(putZ (putZ (gY L p q i) (bxZ L i).1.2) (bxZ L i).2.2).length≤_
  omega
theorem mem_wn {X:List Int} {N:Int} (hN:Wn N 0) (h:∀x∈X,Wn N x) (j:Nat):Wn N (nthI X j):=by
 unfold nthI
 rw[List.getD_eq_getElem?_getD]
 by_cases hj:j < X.length
 ·rw[List.getElem?_eq_getElem hj];exact h _ (List.getElem_mem hj)
 rw[List.getElem?_eq_none (by omega)];exact hN
theorem gX_wn {L:List Bxx} {p q:Pt} {N:Int} (hp:Wn N p.1) (hq:Wn N q.1) (hL:∀j,Wn N (bxZ L j).1.1∧Wn N (bxZ L j).2.1):∀i,∀x∈gX L p q i,Wn N x
 | 0,x,hx=>by
  rcases List.mem_cons.1 hx with rfl|hx
  ·exact hp
  rw[List.mem_singleton.1 hx];exact hq
 | i + 1,x,hx=>by
  rcases (putZ_mem _ _ _).1 hx with rfl|hx
  ·exact (hL i).2
  rcases (putZ_mem _ _ _).1 hx with rfl|hx
  ·exact (hL i).1
  exact gX_wn hp hq hL i x hx
theorem gY_wn {L:List Bxx} {p q:Pt} {N:Int} (hp:Wn N p.2) (hq:Wn N q.2) (hL:∀j,Wn N (bxZ L j).1.2∧Wn N (bxZ L j).2.2):∀i,∀x∈gY L p q i,Wn N x
 | 0,x,hx=>by
  rcases List.mem_cons.1 hx with rfl|hx
  ·exact hp
  rw[List.mem_singleton.1 hx];exact hq
 | i + 1,x,hx=>by
  rcases (putZ_mem _ _ _).1 hx with rfl|hx
  ·exact (hL i).2
  rcases (putZ_mem _ _ _).1 hx with rfl|hx
  ·exact (hL i).1
  exact gY_wn hp hq hL i x hx
theorem gc_bd {X Y:List Int} {L:List Bxx} {p q:Pt} (hX:∀j,Wn 2097152 (nthI X j)) (hY:∀j,Wn 2097152 (nthI Y j)) (i k:Nat):Wn 17592186044416 (gcZ X Y L p q i k):=by
 unfold gcZ
 split
 ·exact⟨by omega,by omega⟩
 split
 ·exact (Wn.mul (Wn.sub (hX _) (hX _)) (Wn.sub (hY _) (hY _))).mono (by decide)
 exact⟨by omega,by omega⟩
theorem gR_bd {X Y:List Int} {L:List Bxx} {p q:Pt} (hX:∀j,Wn 2097152 (nthI X j)) (hY:∀j,Wn 2097152 (nthI Y j)) (i:Nat):∀k:Nat,Wn ((k:Int) * 17592186044416) (gRw X Y L p q i k)
 | 0=>by show Wn _ 0;exact⟨by omega,by omega⟩
 | k + 1=>by
  have h:=(gR_bd (L:=L) (p:=p) (q:=q) hX hY i k).add (gc_bd (L:=L) (p:=p) (q:=q) hX hY i k)
  exact h.mono (by push_cast;omega)
theorem gS_bd {X Y:List Int} {L:List Bxx} {p q:Pt} (hX:∀j,Wn 2097152 (nthI X j)) (hY:∀j,Wn 2097152 (nthI Y j)) (hl:Y.length≤21):∀i:Nat,Wn ((i:Int) * 351843720888320) (gSm X Y L p q i)
 | 0=>by show Wn _ 0;exact⟨by omega,by omega⟩
 | i + 1=>by
  have h1:=gS_bd (L:=L) (p:=p) (q:=q) hX hY hl i
  have h2:Wn 351843720888320 (gRw X Y L p q i (Y.length - 1)):=(gR_bd hX hY i _).mono (by omega)
  exact (h1.add h2).mono (by push_cast;omega)
theorem gsr_bd {X Y:List Int} {L:List Bxx} {p q:Pt} (hX:∀j,Wn 2097152 (nthI X j)) (hY:∀j,Wn 2097152 (nthI Y j)) (hl:Y.length≤21) {i k:Nat} (hi:i≤20) (hk:k≤20):Wn 8000000000000000 (gSm X Y L p q i + gRw X Y L p q i k):=
 ((gS_bd hX hY hl i).add (gR_bd hX hY i k)).mono (by omega)
theorem r2_gaps (v:Value) (L:List Bxx) (p q:Pt) (w:World) (hl:Bxs w v L) (h4:L.length≤4) (hL:∀j,(Wn 2097152 (bxZ L j).1.1∧Wn 2097152 (bxZ L j).1.2)∧(Wn 2097152 (bxZ L j).2.1∧Wn 2097152 (bxZ L j).2.2)) (hp:(Wn 2097152 p.1∧Wn 2097152 p.2)∧(Wn 2097152 q.1∧Wn 2097152 q.2)):
  Calls Tryz.prog 35 #[v,.agg #[.int .i64 p.1,.int .i64 p.2,.int .i64 q.1,.int .i64 q.2]] w (fj w (.int .i64 (gpZ L p q))):=by
 obtain⟨ao,cl,rfl, -, -, -⟩:=hl.slice
 have hs:=Below.refl w.heap.size w
 have HO:=ae hl
 have HLW:=ae hL
 have HPW:=ae hp
 clear hl hL hp
 go_enter Tryz.func35,Tryz.ntmps35
 go_upto_region 3 with fail
 refine Code.abs ?_
 intro w1 hW
 have hG:Gr [] w w1:=by rw[hW];exact (Gr.refl _ _).alloc.alloc.alloc
 have sz_w1:=hs.size
 have Blb:Bx w1 (w.heap.size) 26 #[.int .i64 p.1,.int .i64 p.2,.int .i64 q.1,.int .i64 q.2]:=by rw[hW];exact (((Bx.new0 _ _ _).alloc _).alloc _)
 have Bp:Bx w1 (w.heap.size + 1) 3 #[.int .i64 p.1,.int .i64 q.1]:=by rw[hW];exact ((Bx.new0 _ _ _).alloc _)
 have Bo:Bx w1 (w.heap.size + 1 + 1) 3 #[.int .i64 p.2,.int .i64 q.2]:=by rw[hW];exact (Bx.new0 _ _ _)
 replace hs:=hs.trans (hG.below0 hs.size)
 clear hW hG
 have hz_w1:=Bo.lt
 have RX0:=rows_duo Bp
 have RY0:=rows_duo Bo
 clear Bp Bo
 go_wp2
 go_loopw [5,6,7] (fun s5 s6 s7 wq=>∃a:Nat,a≤L.length∧s7=.int .i64 a∧Below w.heap.size w wq∧Bx wq (w.heap.size) 26 #[.int .i64 p.1,.int .i64 p.2,.int .i64 q.1,.int .i64 q.2]∧Rows 1 3 IC wq s5 (gX L p q a)∧Rows 1 3 IC wq s6 (gY L p q a)) (fun s5 s6 s7 _=>L.length - (intOf s7).toNat)
 case atStart=>exact⟨0,Nat.zero_le _,rfl,hs,Blb,RX0,RY0⟩
 case round=>
  clear Blb hs
  obtain⟨a,k_le,rfl,hs,Blb,RX,RY⟩:=hrel
  obtain⟨wl0,hwo⟩:∃x,x=wr:=⟨_,rfl⟩
  subst hwo
  obtain⟨aRX,kRX,rfl,RX1,RX2, -⟩:=RX.toI.slice
  obtain⟨aRY,kRY,rfl,RY1,RY2, -⟩:=RY.toI.slice
  by_cases q1:a < L.length
  ·have q1d:((a:Int) < (L.length:Int))=True:=eq_true (by omega)
   obtain⟨ob,oo,oc,hv_,hpc1,hpc2⟩:=ep HO.out (by omega)
   obtain⟨rfl,rfl⟩:=yk hv_
   clear hv_
   go_upto_region 6 with fail
   obtain⟨B8,B9,Ba,B0,le2⟩:=jf0 (be.mono IE.kept HO.out hs) (show a < L.length by omega)
   obtain⟨pe2,Hpe2⟩:∃z:Pt,z=(bxZ L a).1:=⟨_,rfl⟩
   obtain⟨qe2,Hqe2⟩:∃z:Pt,z=(bxZ L a).2:=⟨_,rfl⟩
   rw[show (L.getD a ((0,0),(0,0))).1.1=pe2.1 from by rw[Hpe2];rfl] at B8
   rw[show (L.getD a ((0,0),(0,0))).1.2=pe2.2 from by rw[Hpe2];rfl] at B9
   rw[show (L.getD a ((0,0),(0,0))).2.1=qe2.1 from by rw[Hqe2];rfl] at Ba
   rw[show (L.getD a ((0,0),(0,0))).2.2=qe2.2 from by rw[Hqe2];rfl] at B0
   replace Hpe2:=ae Hpe2
   replace Hqe2:=ae Hqe2
   refine bw (S:=fun w'=>w'.cell? ⟨ob,oo + a * 4,none⟩=some (.int .i64 pe2.1)∧w'.cell? ⟨ob,oo + a * 4 + 1,none⟩=some (.int .i64 pe2.2)∧w'.cell? ⟨ob,oo + a * 4 + 2,none⟩=some (.int .i64 qe2.1)∧w'.cell? ⟨ob,oo + a * 4 + 3,none⟩=some (.int .i64 qe2.2)) (by kernel_rfl) 16 ?_
   refine cq.abs ?_
   intro w22 hW
   have hb:Below wl0.heap.size wl0 w22:=by rw[hW];exact de _
   replace hs:=ar hs hb
   replace Blb:=Blb.mono hb
   replace RX:=el IC.kept _ _ _ RX hb
   replace RY:=el IC.kept _ _ _ RY hb
   replace B8:=ah B8 hb
   replace B9:=ah B9 hb
   replace Ba:=ah Ba hb
   replace B0:=ah B0 hb
   clear hb hW
   have hH:=(show w22.cell? ⟨ob,oo + a * 4,none⟩=some (.int .i64 pe2.1)∧w22.cell? ⟨ob,oo + a * 4 + 1,none⟩=some (.int .i64 pe2.2)∧w22.cell? ⟨ob,oo + a * 4 + 2,none⟩=some (.int .i64 qe2.1)∧w22.cell? ⟨ob,oo + a * 4 + 3,none⟩=some (.int .i64 qe2.2) from ⟨B8,B9,Ba,B0⟩)
   refine U_tq 0 33 hH ?_
   refine U_tq 1 34 hH ?_
   refine U_tq 2 35 hH ?_
   refine U_tq 3 36 hH ?_
   refine U_tq 4 37 hH ?_
   refine U_tq 5 38 hH ?_
   refine U_tq 6 39 hH ?_
   refine U_tq 8 41 hH ?_
   refine U_tq 9 42 hH ?_
   refine U_tq 10 43 hH ?_
   refine U_tq 11 44 hH ?_
   refine U_tq 12 45 hH ?_
   refine U_tq 13 46 hH ?_
   clear hH
   refine U_on 7 fun K hK=>?_
   go_simp
   (with_reducible refine (r2_put _ (gX L p q a) pe2.1 _ RX (by have:=(gX_len L p q a).1;have:=(gX_len L p q a).2;omega) (by have:=(gX_len L p q a).1;have:=(gX_len L p q a).2;omega)).mono ?_)
   rintro e w23 ⟨_,rfl,pu3,hb⟩
   obtain⟨apu3,kpu3,rfl,pu31,pu32,pu33⟩:=pu3.toI.slice
   replace hs:=ar hs hb
   replace Blb:=Blb.mono hb
   replace RX:=el IC.kept _ _ _ RX hb
   replace RY:=el IC.kept _ _ _ RY hb
   replace B8:=ah B8 hb
   replace B9:=ah B9 hb
   replace Ba:=ah Ba hb
   replace B0:=ah B0 hb
   clear hb
   try go_wp2_with fail
   refine hK.out _ _ ⟨B8,B9,Ba,B0⟩ (fun hH=>?_)
   clear hK K
   try simp only[LY]
   clear hH
   refine U_on 14 fun K hK=>?_
   go_simp
   (with_reducible refine (r2_put _ (putZ (gX L p q a) pe2.1) qe2.1 _ pu3 (by have:=(gX_len L p q a).1;have:=(gX_len L p q a).2;have:=(putZ_len pe2.1 (gX L p q a));omega) (by have:=(gX_len L p q a).1;have:=(gX_len L p q a).2;have:=(putZ_len pe2.1 (gX L p q a));omega)).mono ?_)
   rintro e w24 ⟨_,rfl,pu4,hb⟩
   obtain⟨apu4,kpu4,rfl,pu41,pu42,pu43⟩:=pu4.toI.slice
   replace hs:=ar hs hb
   replace Blb:=Blb.mono hb
   replace RX:=el IC.kept _ _ _ RX hb
   replace RY:=el IC.kept _ _ _ RY hb
   replace pu3:=el IC.kept _ _ _ pu3 hb
   replace B8:=ah B8 hb
   replace B9:=ah B9 hb
   replace Ba:=ah Ba hb
   replace B0:=ah B0 hb
   clear hb
   try go_wp2_with fail
   refine hK.out _ _ ⟨B8,B9,Ba,B0⟩ (fun hH=>?_)
   clear hK K
   try simp only[LY]
   refine U_tq 15 5 hH ?_
   clear hH
   refine im (by kernel_rfl) ?_
   clear B8 B9 Ba B0
   go_upto_region 7 with fail
   clear le2
   obtain⟨Bb,Bc,Bd,Be,le5⟩:=jf0 (be.mono IE.kept HO.out hs) (show a < L.length by omega)
   obtain⟨pe5,Hpe5⟩:∃z:Pt,z=(bxZ L a).1:=⟨_,rfl⟩
   obtain⟨qe5,Hqe5⟩:∃z:Pt,z=(bxZ L a).2:=⟨_,rfl⟩
   rw[show (L.getD a ((0,0),(0,0))).1.1=pe5.1 from by rw[Hpe5];rfl] at Bb
   rw[show (L.getD a ((0,0),(0,0))).1.2=pe5.2 from by rw[Hpe5];rfl] at Bc
   rw[show (L.getD a ((0,0),(0,0))).2.1=qe5.1 from by rw[Hqe5];rfl] at Bd
   rw[show (L.getD a ((0,0),(0,0))).2.2=qe5.2 from by rw[Hqe5];rfl] at Be
   replace Hpe5:=ae Hpe5
   replace Hqe5:=ae Hqe5
   refine bw (S:=fun w'=>w'.cell? ⟨ob,oo + a * 4,none⟩=some (.int .i64 pe5.1)∧w'.cell? ⟨ob,oo + a * 4 + 1,none⟩=some (.int .i64 pe5.2)∧w'.cell? ⟨ob,oo + a * 4 + 2,none⟩=some (.int .i64 qe5.1)∧w'.cell? ⟨ob,oo + a * 4 + 3,none⟩=some (.int .i64 qe5.2)) (by kernel_rfl) 16 ?_
   refine cq.abs ?_
   intro w25 hW
   have hb:Below w24.heap.size w24 w25:=by rw[hW];exact de _
   replace hs:=ar hs hb
   replace Blb:=Blb.mono hb
   replace RX:=el IC.kept _ _ _ RX hb
   replace RY:=el IC.kept _ _ _ RY hb
   replace pu3:=el IC.kept _ _ _ pu3 hb
   replace pu4:=el IC.kept _ _ _ pu4 hb
   replace Bb:=ah Bb hb
   replace Bc:=ah Bc hb
   replace Bd:=ah Bd hb
   replace Be:=ah Be hb
   clear hb hW
   have hH:=(show w25.cell? ⟨ob,oo + a * 4,none⟩=some (.int .i64 pe5.1)∧w25.cell? ⟨ob,oo + a * 4 + 1,none⟩=some (.int .i64 pe5.2)∧w25.cell? ⟨ob,oo + a * 4 + 2,none⟩=some (.int .i64 qe5.1)∧w25.cell? ⟨ob,oo + a * 4 + 3,none⟩=some (.int .i64 qe5.2) from ⟨Bb,Bc,Bd,Be⟩)
   refine U_tq 0 48 hH ?_
   refine U_tq 1 49 hH ?_
   refine U_tq 2 50 hH ?_
   refine U_tq 3 51 hH ?_
   refine U_tq 4 52 hH ?_
   refine U_tq 5 53 hH ?_
   refine U_tq 6 54 hH ?_
   refine U_tq 8 56 hH ?_
   refine U_tq 9 57 hH ?_
   refine U_tq 10 58 hH ?_
   refine U_tq 11 59 hH ?_
   refine U_tq 12 60 hH ?_
   refine U_tq 13 61 hH ?_
   clear hH
   refine U_on 7 fun K hK=>?_
   go_simp
   (with_reducible refine (r2_put _ (gY L p q a) pe5.2 _ RY (by have:=(gY_len L p q a).1;have:=(gY_len L p q a).2;omega) (by have:=(gY_len L p q a).1;have:=(gY_len L p q a).2;omega)).mono ?_)
   rintro e w26 ⟨_,rfl,pu6,hb⟩
   obtain⟨apu6,kpu6,rfl,pu61,pu62,pu63⟩:=pu6.toI.slice
   replace hs:=ar hs hb
   replace Blb:=Blb.mono hb
   replace RX:=el IC.kept _ _ _ RX hb
   replace RY:=el IC.kept _ _ _ RY hb
   replace pu3:=el IC.kept _ _ _ pu3 hb
   replace pu4:=el IC.kept _ _ _ pu4 hb
   replace Bb:=ah Bb hb
   replace Bc:=ah Bc hb
   replace Bd:=ah Bd hb
   replace Be:=ah Be hb
   clear hb
   try go_wp2_with fail
   refine hK.out _ _ ⟨Bb,Bc,Bd,Be⟩ (fun hH=>?_)
   clear hK K
   try simp only[LY]
   clear hH
   refine U_on 14 fun K hK=>?_
   go_simp
   (with_reducible refine (r2_put _ (putZ (gY L p q a) pe5.2) qe5.2 _ pu6 (by have:=(gY_len L p q a).1;have:=(gY_len L p q a).2;have:=(putZ_len pe5.2 (gY L p q a));omega) (by have:=(gY_len L p q a).1;have:=(gY_len L p q a).2;have:=(putZ_len pe5.2 (gY L p q a));omega)).mono ?_)
   rintro e w27 ⟨_,rfl,pu7,hb⟩
   obtain⟨apu7,kpu7,rfl,pu71,pu72,pu73⟩:=pu7.toI.slice
   replace hs:=ar hs hb
   replace Blb:=Blb.mono hb
   replace RX:=el IC.kept _ _ _ RX hb
   replace RY:=el IC.kept _ _ _ RY hb
   replace pu3:=el IC.kept _ _ _ pu3 hb
   replace pu4:=el IC.kept _ _ _ pu4 hb
   replace pu6:=el IC.kept _ _ _ pu6 hb
   replace Bb:=ah Bb hb
   replace Bc:=ah Bc hb
   replace Bd:=ah Bd hb
   replace Be:=ah Be hb
   clear hb
   try go_wp2_with fail
   refine hK.out _ _ ⟨Bb,Bc,Bd,Be⟩ (fun hH=>?_)
   clear hK K
   try simp only[LY]
   refine U_tq 15 6 hH ?_
   clear hH
   refine im (by kernel_rfl) ?_
   clear Bb Bc Bd Be
   have AX8:IntKind.i64.wrap ((a:Int) + 1)=(a:Int) + 1:=IntWalk.i64_in _ (by omega)
   go_wp2
   go_roundw
   case rel=>exact⟨a + 1,by omega,by go_num,hs,Blb,(by rw[show gX L p q (a + 1)=putZ (putZ (gX L p q a) (bxZ L a).1.1) (bxZ L a).2.1 from rfl,show (bxZ L a).1=pe2 from Hpe2.out.symm,show (bxZ L a).2=qe2 from Hqe2.out.symm];exact pu4),(by rw[show gY L p q (a + 1)=putZ (putZ (gY L p q a) (bxZ L a).1.2) (bxZ L a).2.2 from rfl,show (bxZ L a).1=pe5 from Hpe5.out.symm,show (bxZ L a).2=qe5 from Hqe5.out.symm];exact pu7)⟩
   all_goals first|(simp[intOf];done)|(simp[intOf];omega)
  have q1d:((a:Int) < (L.length:Int))=False:=eq_false (by omega)
  obtain⟨X,HX⟩:∃z,z=gX L p q L.length:=⟨_,rfl⟩
  obtain⟨Y,HY⟩:∃z,z=gY L p q L.length:=⟨_,rfl⟩
  rw[show a=L.length from by omega,←HX] at RX
  rw[show a=L.length from by omega,←HY] at RY
  have hX1:2≤X.length:=by rw[HX];exact (gX_len L p q _).1
  have hX2:X.length≤10:=by have:=(gX_len L p q L.length).2;rw[HX];omega
  have hY1:2≤Y.length:=by rw[HY];exact (gY_len L p q _).1
  have hY2:Y.length≤10:=by have:=(gY_len L p q L.length).2;rw[HY];omega
  have HXW:=ae (show ∀j,Wn 2097152 (nthI X j) from mem_wn (Wn.lit (by decide) (by decide)) (by rw[HX];exact gX_wn HPW.out.1.1 HPW.out.2.1 (fun j=>⟨(HLW.out j).1.1,(HLW.out j).2.1⟩) _))
  have HYW:=ae (show ∀j,Wn 2097152 (nthI Y j) from mem_wn (Wn.lit (by decide) (by decide)) (by rw[HY];exact gY_wn HPW.out.1.2 HPW.out.2.2 (fun j=>⟨(HLW.out j).1.2,(HLW.out j).2.2⟩) _))
  replace HX:=ae HX
  replace HY:=ae HY
  have eX:(gX L p q a).length=X.length:=by rw[HX.out,show a=L.length from by omega]
  have eY:(gY L p q a).length=Y.length:=by rw[HY.out,show a=L.length from by omega]
  rw[eX,eY]
  clear eX eY
  obtain⟨xb,xo,xc,hv_,hx1,hx2, -⟩:=RX.open_ (by omega)
  obtain⟨rfl,rfl⟩:=yk hv_
  clear hv_
  obtain⟨yb,yo,yc,hv_,hy1,hy2, -⟩:=RY.open_ (by omega)
  obtain⟨rfl,rfl⟩:=yk hv_
  clear hv_
  have HRX:=ae RX
  have HRY:=ae RY
  clear RX RY
  have HB0_2:=ae hs
  clear hs
  have hs:=Below.refl wl0.heap.size wl0
  have nb_b:=Blb.lt
  go_wp2
  go_loopw [8,9] (fun s8 s9 wq=>∃i:Nat,i≤(X.length - 1)∧s9=.int .i64 i∧s8=.int .i64 (gSm X Y L p q i)∧Below wl0.heap.size wl0 wq∧Bx wq (w.heap.size) 26 #[.int .i64 p.1,.int .i64 p.2,.int .i64 q.1,.int .i64 q.2]) (fun s8 s9 _=>(X.length - 1) - (intOf s9).toNat)
  case atStart=>exact⟨0,Nat.zero_le _,rfl,rfl,hs,Blb⟩
  case round=>as_aux_lemma=>
   clear Blb hs
   obtain⟨i,k_le,rfl,rfl,hs,Blb⟩:=hrel
   obtain⟨wl1,hwo⟩:∃x,x=wr:=⟨_,rfl⟩
   subst hwo
   have AX3:IntKind.i64.wrap ((i:Int) + 1)=(i:Int) + 1:=IntWalk.i64_in _ (by omega)
   by_cases q4:(i:Int) + 1 < (X.length:Int)
   ·have q4d:((i:Int) + 1 < (X.length:Int))=True:=eq_true (by omega)
    go_wp2
    go_loopw [8,10] (fun s8 s10 wq=>∃k:Nat,k≤(Y.length - 1)∧s10=.int .i64 k∧s8=.int .i64 (gSm X Y L p q i + gRw X Y L p q i k)∧Below wl0.heap.size wl0 wq∧Bx wq (w.heap.size) 26 #[.int .i64 p.1,.int .i64 p.2,.int .i64 q.1,.int .i64 q.2]) (fun s8 s10 _=>(Y.length - 1) - (intOf s10).toNat)
    case atStart=>exact⟨0,Nat.zero_le _,rfl,(by show Value.int .i64 _=Value.int .i64 (_ + 0);rw[Int.add_zero]),hs,Blb⟩
    case round=>as_aux_lemma=>
     clear Blb hs
     obtain⟨k,k_le,rfl,rfl,hs,Blb⟩:=hrel
     obtain⟨wl2,hwo⟩:∃x,x=wr:=⟨_,rfl⟩
     subst hwo
     obtain⟨gs,Hgs⟩:∃z:Int,z=gSm X Y L p q i + gRw X Y L p q i k:=⟨_,rfl⟩
     rw[←Hgs]
     have Wgs:Wn 8000000000000000 gs:=by rw[Hgs];exact gsr_bd HXW.out HYW.out (by omega) (by omega) (by omega)
     replace Hgs:=ae Hgs
     have AX5:IntKind.i64.wrap ((k:Int) + 1)=(k:Int) + 1:=IntWalk.i64_in _ (by omega)
     by_cases q6:(k:Int) + 1 < (Y.length:Int)
     ·have q6d:((k:Int) + 1 < (Y.length:Int))=True:=eq_true (by omega)
      have fia:(i < X.length)=True:=eq_true (by omega)
      have fib:((i:Int) < (X.length:Int))=True:=eq_true (by omega)
      have fic:(i + 1 < X.length)=True:=eq_true (by omega)
      have fka:(k < Y.length)=True:=eq_true (by omega)
      have fkb:((k:Int) < (Y.length:Int))=True:=eq_true (by omega)
      have fkc:(k + 1 < Y.length)=True:=eq_true (by omega)
      go_upto_region 15 with fail
      obtain⟨Ee7,le7⟩:=rowI_at (HRX.out.mono IC.kept hs) (show i < X.length by omega)
      simp only[Nat.mul_one] at Ee7
      obtain⟨ie7,Hie7⟩:∃z:Int,z=nthI X i:=⟨_,rfl⟩
      rw[←Hie7] at Ee7
      replace Hie7:=ae Hie7
      by_cases q8:ie7 < p.1
      ·have q8d:(ie7 < p.1)=True:=eq_true (by omega)
       refine bw (S:=fun w'=>w'.cell? ⟨w.heap.size,0,none⟩=some (.int .i64 p.1)∧w'.cell? ⟨w.heap.size,1,none⟩=some (.int .i64 p.2)∧w'.cell? ⟨w.heap.size,2,none⟩=some (.int .i64 q.1)∧w'.cell? ⟨w.heap.size,3,none⟩=some (.int .i64 q.2)∧w'.cell? ⟨xb,xo + i,none⟩=some (.int .i64 ie7)) (by kernel_rfl) 40 ?_
       refine cq.abs ?_
       intro w62 hW
       have hb:Below wl2.heap.size wl2 w62:=by rw[hW];exact de _
       replace hs:=ar hs hb
       replace Blb:=Blb.mono hb
       replace Ee7:=ah Ee7 hb
       clear hb hW
       refine Blb.k4 fun Bf Bg Bh Bi=>?_
       have hH:=(show w62.cell? ⟨w.heap.size,0,none⟩=some (.int .i64 p.1)∧w62.cell? ⟨w.heap.size,1,none⟩=some (.int .i64 p.2)∧w62.cell? ⟨w.heap.size,2,none⟩=some (.int .i64 q.1)∧w62.cell? ⟨w.heap.size,3,none⟩=some (.int .i64 q.2)∧w62.cell? ⟨xb,xo + i,none⟩=some (.int .i64 ie7) from ⟨Bf,Bg,Bh,Bi,Ee7⟩)
       refine U_tq 0 77 hH ?_
       refine U_tq 1 78 hH ?_
       refine U_tq 2 79 hH ?_
       refine U_tq 3 80 hH ?_
       refine U_tq 4 81 hH ?_
       refine U_tq 5 82 hH ?_
       refine U_tq 6 83 hH ?_
       refine U_tq 7 84 hH ?_
       refine U_tq 8 85 hH ?_
       refine ff 9 86 hH ?_
       simp only[LY]
       refine ff 10 87 hH ?_
       simp only[LY]
       refine ff 11 88 hH ?_
       simp only[LY]
       refine ff 12 89 hH ?_
       simp only[LY]
       refine ff 13 90 hH ?_
       simp only[LY]
       refine ff 14 91 hH ?_
       simp only[LY]
       refine ff 15 92 hH ?_
       simp only[LY]
       refine ff 16 93 hH ?_
       simp only[LY]
       refine ff 17 94 hH ?_
       simp only[LY]
       refine U_tq 18 95 hH ?_
       refine U_tq 19 96 hH ?_
       refine ff 20 97 hH ?_
       simp only[LY]
       refine ff 21 98 hH ?_
       simp only[LY]
       refine ff 22 99 hH ?_
       simp only[LY]
       refine ff 23 100 hH ?_
       simp only[LY]
       refine ff 24 101 hH ?_
       simp only[LY]
       refine ff 25 102 hH ?_
       simp only[LY]
       refine ff 26 103 hH ?_
       simp only[LY]
       refine ff 27 104 hH ?_
       simp only[LY]
       refine U_tq 28 105 hH ?_
       refine U_tq 29 106 hH ?_
       refine ff 30 107 hH ?_
       simp only[LY]
       refine ff 31 108 hH ?_
       simp only[LY]
       refine ff 32 109 hH ?_
       simp only[LY]
       refine ff 33 110 hH ?_
       simp only[LY]
       refine ff 34 111 hH ?_
       simp only[LY]
       refine ff 35 112 hH ?_
       simp only[LY]
       refine ff 36 113 hH ?_
       simp only[LY]
       refine ff 37 114 hH ?_
       simp only[LY]
       refine ff 38 115 hH ?_
       simp only[LY]
       refine U_tq 39 116 hH ?_
       clear hH
       refine im (by kernel_rfl) ?_
       clear Bf Bg Bh Bi Ee7
       have AX9:IntKind.i64.wrap ((k:Int) + 1)=(k:Int) + 1:=IntWalk.i64_in _ (by omega)
       go_wp2
       go_roundw
       case rel=>exact⟨k + 1,by omega,by go_num,congrArg (Value.int .i64) (show gs=gSm X Y L p q i + gRw X Y L p q i (k + 1) from by show _=gSm X Y L p q i + (gRw X Y L p q i k + gcZ X Y L p q i k);rw[gc_out (by have hl0:=Hie7.out;omega)];have hg:=Hgs.out;omega),hs,Blb⟩
       all_goals first|(simp[intOf];done)|(simp[intOf];omega)
      have q8d:(ie7 < p.1)=False:=eq_false (by omega)
      have AX9:IntKind.i64.wrap ((i:Int) + 1)=(i:Int) + 1:=IntWalk.i64_in _ (by omega)
      have SW10a:=IntWalk.i64_in ((i:Int) + 1) (by omega)
      have SW10b:(0:Int)≤(i:Int) + 1:=by omega
      have SW10c:((i:Int) + 1).toNat=(i + 1):=by omega
      have SW10d:(i:Int) + 1 < (X.length:Int):=by omega
      obtain⟨B6,le11⟩:=rowI_at (HRX.out.mono IC.kept hs) (show (i + 1) < X.length by omega)
      simp only[Nat.mul_one] at B6
      obtain⟨ie11,Hie11⟩:∃z:Int,z=nthI X (i + 1):=⟨_,rfl⟩
      rw[←Hie11] at B6
      replace Hie11:=ae Hie11
      by_cases q12:q.1 < ie11
      ·have q12d:(q.1 < ie11)=True:=eq_true (by omega)
       refine bw (S:=fun w'=>w'.cell? ⟨w.heap.size,0,none⟩=some (.int .i64 p.1)∧w'.cell? ⟨w.heap.size,1,none⟩=some (.int .i64 p.2)∧w'.cell? ⟨w.heap.size,2,none⟩=some (.int .i64 q.1)∧w'.cell? ⟨w.heap.size,3,none⟩=some (.int .i64 q.2)∧w'.cell? ⟨xb,xo + i,none⟩=some (.int .i64 ie7)∧w'.cell? ⟨xb,xo + (i + 1),none⟩=some (.int .i64 ie11)) (by kernel_rfl) 40 ?_
       refine cq.abs ?_
       intro w62 hW
       have hb:Below wl2.heap.size wl2 w62:=by rw[hW];exact de _
       replace hs:=ar hs hb
       replace Blb:=Blb.mono hb
       replace Ee7:=ah Ee7 hb
       replace B6:=ah B6 hb
       clear hb hW
       refine Blb.k4 fun Bf Bg Bh Bi=>?_
       have hH:=(show w62.cell? ⟨w.heap.size,0,none⟩=some (.int .i64 p.1)∧w62.cell? ⟨w.heap.size,1,none⟩=some (.int .i64 p.2)∧w62.cell? ⟨w.heap.size,2,none⟩=some (.int .i64 q.1)∧w62.cell? ⟨w.heap.size,3,none⟩=some (.int .i64 q.2)∧w62.cell? ⟨xb,xo + i,none⟩=some (.int .i64 ie7)∧w62.cell? ⟨xb,xo + (i + 1),none⟩=some (.int .i64 ie11) from ⟨Bf,Bg,Bh,Bi,Ee7,B6⟩)
       refine U_tq 0 77 hH ?_
       refine U_tq 1 78 hH ?_
       refine U_tq 2 79 hH ?_
       refine U_tq 3 80 hH ?_
       refine U_tq 4 81 hH ?_
       refine U_tq 5 82 hH ?_
       refine U_tq 6 83 hH ?_
       refine U_tq 7 84 hH ?_
       refine U_tq 8 85 hH ?_
       refine U_tq 9 86 hH ?_
       refine U_tq 10 87 hH ?_
       refine U_tq 11 88 hH ?_
       refine U_tq 12 89 hH ?_
       refine U_tq 13 90 hH ?_
       refine U_tq 14 91 hH ?_
       refine U_tq 15 92 hH ?_
       refine U_tq 16 93 hH ?_
       refine U_tq 17 94 hH ?_
       refine U_tq 18 95 hH ?_
       refine U_tq 19 96 hH ?_
       refine ff 20 97 hH ?_
       simp only[LY]
       refine ff 21 98 hH ?_
       simp only[LY]
       refine ff 22 99 hH ?_
       simp only[LY]
       refine ff 23 100 hH ?_
       simp only[LY]
       refine ff 24 101 hH ?_
       simp only[LY]
       refine ff 25 102 hH ?_
       simp only[LY]
       refine ff 26 103 hH ?_
       simp only[LY]
       refine ff 27 104 hH ?_
       simp only[LY]
       refine U_tq 28 105 hH ?_
       refine U_tq 29 106 hH ?_
       refine ff 30 107 hH ?_
       simp only[LY]
       refine ff 31 108 hH ?_
       simp only[LY]
       refine ff 32 109 hH ?_
       simp only[LY]
       refine ff 33 110 hH ?_
       simp only[LY]
       refine ff 34 111 hH ?_
       simp only[LY]
       refine ff 35 112 hH ?_
       simp only[LY]
       refine ff 36 113 hH ?_
       simp only[LY]
       refine ff 37 114 hH ?_
       simp only[LY]
       refine ff 38 115 hH ?_
       simp only[LY]
       refine U_tq 39 116 hH ?_
       clear hH
       refine im (by kernel_rfl) ?_
       clear Bf Bg Bh Bi Ee7 B6
       have AX13:IntKind.i64.wrap ((k:Int) + 1)=(k:Int) + 1:=IntWalk.i64_in _ (by omega)
       go_wp2
       go_roundw
       case rel=>exact⟨k + 1,by omega,by go_num,congrArg (Value.int .i64) (show gs=gSm X Y L p q i + gRw X Y L p q i (k + 1) from by show _=gSm X Y L p q i + (gRw X Y L p q i k + gcZ X Y L p q i k);rw[gc_out (by have hl0:=Hie11.out;have hl1:=Hie7.out;omega)];have hg:=Hgs.out;omega),hs,Blb⟩
       all_goals first|(simp[intOf];done)|(simp[intOf];omega)
      have q12d:(q.1 < ie11)=False:=eq_false (by omega)
      obtain⟨Bj,le13⟩:=rowI_at (HRY.out.mono IC.kept hs) (show k < Y.length by omega)
      simp only[Nat.mul_one] at Bj
      obtain⟨ie13,Hie13⟩:∃z:Int,z=nthI Y k:=⟨_,rfl⟩
      rw[←Hie13] at Bj
      replace Hie13:=ae Hie13
      by_cases q14:ie13 < p.2
      ·have q14d:(ie13 < p.2)=True:=eq_true (by omega)
       refine bw (S:=fun w'=>w'.cell? ⟨w.heap.size,0,none⟩=some (.int .i64 p.1)∧w'.cell? ⟨w.heap.size,1,none⟩=some (.int .i64 p.2)∧w'.cell? ⟨w.heap.size,2,none⟩=some (.int .i64 q.1)∧w'.cell? ⟨w.heap.size,3,none⟩=some (.int .i64 q.2)∧w'.cell? ⟨xb,xo + i,none⟩=some (.int .i64 ie7)∧w'.cell? ⟨xb,xo + (i + 1),none⟩=some (.int .i64 ie11)∧w'.cell? ⟨yb,yo + k,none⟩=some (.int .i64 ie13)) (by kernel_rfl) 40 ?_
       refine cq.abs ?_
       intro w62 hW
       have hb:Below wl2.heap.size wl2 w62:=by rw[hW];exact de _
       replace hs:=ar hs hb
       replace Blb:=Blb.mono hb
       replace Ee7:=ah Ee7 hb
       replace B6:=ah B6 hb
       replace Bj:=ah Bj hb
       clear hb hW
       refine Blb.k4 fun Bf Bg Bh Bi=>?_
       have hH:=(show w62.cell? ⟨w.heap.size,0,none⟩=some (.int .i64 p.1)∧w62.cell? ⟨w.heap.size,1,none⟩=some (.int .i64 p.2)∧w62.cell? ⟨w.heap.size,2,none⟩=some (.int .i64 q.1)∧w62.cell? ⟨w.heap.size,3,none⟩=some (.int .i64 q.2)∧w62.cell? ⟨xb,xo + i,none⟩=some (.int .i64 ie7)∧w62.cell? ⟨xb,xo + (i + 1),none⟩=some (.int .i64 ie11)∧w62.cell? ⟨yb,yo + k,none⟩=some (.int .i64 ie13) from ⟨Bf,Bg,Bh,Bi,Ee7,B6,Bj⟩)
       refine U_tq 0 77 hH ?_
       refine U_tq 1 78 hH ?_
       refine U_tq 2 79 hH ?_
       refine U_tq 3 80 hH ?_
       refine U_tq 4 81 hH ?_
       refine U_tq 5 82 hH ?_
       refine U_tq 6 83 hH ?_
       refine U_tq 7 84 hH ?_
       refine U_tq 8 85 hH ?_
       refine U_tq 9 86 hH ?_
       refine U_tq 10 87 hH ?_
       refine U_tq 11 88 hH ?_
       refine U_tq 12 89 hH ?_
       refine U_tq 13 90 hH ?_
       refine U_tq 14 91 hH ?_
       refine U_tq 15 92 hH ?_
       refine U_tq 16 93 hH ?_
       refine U_tq 17 94 hH ?_
       refine U_tq 18 95 hH ?_
       refine U_tq 19 96 hH ?_
       refine U_tq 20 97 hH ?_
       refine U_tq 21 98 hH ?_
       refine U_tq 22 99 hH ?_
       refine U_tq 23 100 hH ?_
       refine U_tq 24 101 hH ?_
       refine U_tq 25 102 hH ?_
       refine U_tq 26 103 hH ?_
       refine U_tq 27 104 hH ?_
       refine U_tq 28 105 hH ?_
       refine U_tq 29 106 hH ?_
       refine ff 30 107 hH ?_
       simp only[LY]
       refine ff 31 108 hH ?_
       simp only[LY]
       refine ff 32 109 hH ?_
       simp only[LY]
       refine ff 33 110 hH ?_
       simp only[LY]
       refine ff 34 111 hH ?_
       simp only[LY]
       refine ff 35 112 hH ?_
       simp only[LY]
       refine ff 36 113 hH ?_
       simp only[LY]
       refine ff 37 114 hH ?_
       simp only[LY]
       refine ff 38 115 hH ?_
       simp only[LY]
       refine U_tq 39 116 hH ?_
       clear hH
       refine im (by kernel_rfl) ?_
       clear Bf Bg Bh Bi Ee7 B6 Bj
       have AX15:IntKind.i64.wrap ((k:Int) + 1)=(k:Int) + 1:=IntWalk.i64_in _ (by omega)
       go_wp2
       go_roundw
       case rel=>exact⟨k + 1,by omega,by go_num,congrArg (Value.int .i64) (show gs=gSm X Y L p q i + gRw X Y L p q i (k + 1) from by show _=gSm X Y L p q i + (gRw X Y L p q i k + gcZ X Y L p q i k);rw[gc_out (by have hl0:=Hie11.out;have hl1:=Hie13.out;have hl2:=Hie7.out;omega)];have hg:=Hgs.out;omega),hs,Blb⟩
       all_goals first|(simp[intOf];done)|(simp[intOf];omega)
      have q14d:(ie13 < p.2)=False:=eq_false (by omega)
      have AX15:IntKind.i64.wrap ((k:Int) + 1)=(k:Int) + 1:=IntWalk.i64_in _ (by omega)
      have SW16a:=IntWalk.i64_in ((k:Int) + 1) (by omega)
      have SW16b:(0:Int)≤(k:Int) + 1:=by omega
      have SW16c:((k:Int) + 1).toNat=(k + 1):=by omega
      have SW16d:(k:Int) + 1 < (Y.length:Int):=by omega
      obtain⟨Bk,le17⟩:=rowI_at (HRY.out.mono IC.kept hs) (show (k + 1) < Y.length by omega)
      simp only[Nat.mul_one] at Bk
      obtain⟨ie17,Hie17⟩:∃z:Int,z=nthI Y (k + 1):=⟨_,rfl⟩
      rw[←Hie17] at Bk
      replace Hie17:=ae Hie17
      refine bw (S:=fun w'=>w'.cell? ⟨w.heap.size,0,none⟩=some (.int .i64 p.1)∧w'.cell? ⟨w.heap.size,1,none⟩=some (.int .i64 p.2)∧w'.cell? ⟨w.heap.size,2,none⟩=some (.int .i64 q.1)∧w'.cell? ⟨w.heap.size,3,none⟩=some (.int .i64 q.2)∧w'.cell? ⟨xb,xo + i,none⟩=some (.int .i64 ie7)∧w'.cell? ⟨xb,xo + (i + 1),none⟩=some (.int .i64 ie11)∧w'.cell? ⟨yb,yo + k,none⟩=some (.int .i64 ie13)∧w'.cell? ⟨yb,yo + (k + 1),none⟩=some (.int .i64 ie17)) (by kernel_rfl) 40 ?_
      refine cq.abs ?_
      intro w62 hW
      have hb:Below wl2.heap.size wl2 w62:=by rw[hW];exact de _
      replace hs:=ar hs hb
      replace Blb:=Blb.mono hb
      replace Ee7:=ah Ee7 hb
      replace B6:=ah B6 hb
      replace Bj:=ah Bj hb
      replace Bk:=ah Bk hb
      clear hb hW
      refine Blb.k4 fun Bf Bg Bh Bi=>?_
      have hH:=(show w62.cell? ⟨w.heap.size,0,none⟩=some (.int .i64 p.1)∧w62.cell? ⟨w.heap.size,1,none⟩=some (.int .i64 p.2)∧w62.cell? ⟨w.heap.size,2,none⟩=some (.int .i64 q.1)∧w62.cell? ⟨w.heap.size,3,none⟩=some (.int .i64 q.2)∧w62.cell? ⟨xb,xo + i,none⟩=some (.int .i64 ie7)∧w62.cell? ⟨xb,xo + (i + 1),none⟩=some (.int .i64 ie11)∧w62.cell? ⟨yb,yo + k,none⟩=some (.int .i64 ie13)∧w62.cell? ⟨yb,yo + (k + 1),none⟩=some (.int .i64 ie17) from ⟨Bf,Bg,Bh,Bi,Ee7,B6,Bj,Bk⟩)
      refine U_tq 0 77 hH ?_
      refine U_tq 1 78 hH ?_
      refine U_tq 2 79 hH ?_
      refine U_tq 3 80 hH ?_
      refine U_tq 4 81 hH ?_
      refine U_tq 5 82 hH ?_
      refine U_tq 6 83 hH ?_
      refine U_tq 7 84 hH ?_
      refine U_tq 8 85 hH ?_
      refine U_tq 9 86 hH ?_
      refine U_tq 10 87 hH ?_
      refine U_tq 11 88 hH ?_
      refine U_tq 12 89 hH ?_
      refine U_tq 13 90 hH ?_
      refine U_tq 14 91 hH ?_
      refine U_tq 15 92 hH ?_
      refine U_tq 16 93 hH ?_
      refine U_tq 17 94 hH ?_
      refine U_tq 18 95 hH ?_
      refine U_tq 19 96 hH ?_
      refine U_tq 20 97 hH ?_
      refine U_tq 21 98 hH ?_
      refine U_tq 22 99 hH ?_
      refine U_tq 23 100 hH ?_
      refine U_tq 24 101 hH ?_
      refine U_tq 25 102 hH ?_
      refine U_tq 26 103 hH ?_
      refine U_tq 27 104 hH ?_
      refine U_tq 28 105 hH ?_
      refine U_tq 29 106 hH ?_
      refine U_tq 30 107 hH ?_
      refine U_tq 31 108 hH ?_
      refine U_tq 32 109 hH ?_
      refine U_tq 33 110 hH ?_
      refine U_tq 34 111 hH ?_
      refine U_tq 35 112 hH ?_
      refine U_tq 36 113 hH ?_
      refine U_tq 37 114 hH ?_
      refine U_tq 38 115 hH ?_
      refine U_tq 39 116 hH ?_
      clear hH
      refine im (by kernel_rfl) ?_
      clear Bf Bg Bh Bi Ee7 B6 Bj Bk
      by_cases q18:q.2 < ie17
      ·have q18d:(q.2 < ie17)=True:=eq_true (by omega)
       have AX19:IntKind.i64.wrap ((k:Int) + 1)=(k:Int) + 1:=IntWalk.i64_in _ (by omega)
       go_wp2
       go_roundw
       case rel=>exact⟨k + 1,by omega,by go_num,congrArg (Value.int .i64) (show gs=gSm X Y L p q i + gRw X Y L p q i (k + 1) from by show _=gSm X Y L p q i + (gRw X Y L p q i k + gcZ X Y L p q i k);rw[gc_out (by have hl0:=Hie11.out;have hl1:=Hie13.out;have hl2:=Hie17.out;have hl3:=Hie7.out;omega)];have hg:=Hgs.out;omega),hs,Blb⟩
       all_goals first|(simp[intOf];done)|(simp[intOf];omega)
      have q18d:(q.2 < ie17)=False:=eq_false (by omega)
      go_wp2
      clear le7 le11 le13 le17
      go_loopw [11,12] (fun s11 s12 wq=>∃j:Nat,j≤L.length∧s12=.int .i64 j∧s11=.bool (inK X Y L i k j)∧Below wl0.heap.size wl0 wq∧Bx wq (w.heap.size) 26 #[.int .i64 p.1,.int .i64 p.2,.int .i64 q.1,.int .i64 q.2]) (fun s11 s12 _=>L.length - (intOf s12).toNat)
      case atStart=>exact⟨0,Nat.zero_le _,rfl,rfl,hs,Blb⟩
      case round=>as_aux_lemma=>
       clear Blb hs
       obtain⟨j,k_le,rfl,rfl,hs,Blb⟩:=hrel
       obtain⟨wl3,hwo⟩:∃x,x=wr:=⟨_,rfl⟩
       subst hwo
       obtain⟨b19,Hb19⟩:∃b:Bool,b=inK X Y L i k j:=⟨_,rfl⟩
       rw[←Hb19]
       replace Hb19:=ae Hb19
       by_cases q20:j < L.length
       ·have q20d:((j:Int) < (L.length:Int))=True:=eq_true (by omega)
        obtain⟨ob,oo,oc,hv_,hpc1,hpc2⟩:=ep HO.out (by omega)
        obtain⟨rfl,rfl⟩:=yk hv_
        clear hv_
        go_upto_region 20 with fail
        by_cases q21:inK X Y L i k j=true
        ·obtain rfl:b19=true:=by rw[Hb19.out];exact q21
         have q21H:=ae q21
         clear q21
         refine bw (S:=fun w'=>True) (by kernel_rfl) 56 ?_
         refine cq.abs ?_
         intro w83 hW
         have hb:Below wl3.heap.size wl3 w83:=by rw[hW];exact de _
         replace hs:=ar hs hb
         replace Blb:=Blb.mono hb
         clear hb hW
         have hH:=(show True from True.intro)
         refine U_tq 0 123 hH ?_
         refine U_tq 1 124 hH ?_
         refine ff 2 125 hH ?_
         simp only[LY]
         refine ff 3 126 hH ?_
         simp only[LY]
         refine ff 4 127 hH ?_
         simp only[LY]
         refine ff 5 128 hH ?_
         simp only[LY]
         refine ff 6 129 hH ?_
         simp only[LY]
         refine ff 7 130 hH ?_
         simp only[LY]
         refine ff 8 131 hH ?_
         simp only[LY]
         refine ff 9 132 hH ?_
         simp only[LY]
         refine ff 10 133 hH ?_
         simp only[LY]
         refine ff 11 134 hH ?_
         simp only[LY]
         refine ff 12 135 hH ?_
         simp only[LY]
         refine ff 13 136 hH ?_
         simp only[LY]
         refine ff 14 137 hH ?_
         simp only[LY]
         refine ff 15 138 hH ?_
         simp only[LY]
         refine ff 16 139 hH ?_
         simp only[LY]
         refine ff 17 140 hH ?_
         simp only[LY]
         refine ff 18 141 hH ?_
         simp only[LY]
         refine ff 19 142 hH ?_
         simp only[LY]
         refine ff 20 143 hH ?_
         simp only[LY]
         refine ff 21 144 hH ?_
         simp only[LY]
         refine ff 22 145 hH ?_
         simp only[LY]
         refine ff 23 146 hH ?_
         simp only[LY]
         refine ff 24 147 hH ?_
         simp only[LY]
         refine ff 25 148 hH ?_
         simp only[LY]
         refine ff 26 149 hH ?_
         simp only[LY]
         refine ff 27 150 hH ?_
         simp only[LY]
         refine ff 28 151 hH ?_
         simp only[LY]
         refine ff 29 152 hH ?_
         simp only[LY]
         refine ff 30 153 hH ?_
         simp only[LY]
         refine ff 31 154 hH ?_
         simp only[LY]
         refine ff 32 155 hH ?_
         simp only[LY]
         refine ff 33 156 hH ?_
         simp only[LY]
         refine ff 34 157 hH ?_
         simp only[LY]
         refine ff 35 158 hH ?_
         simp only[LY]
         refine ff 36 159 hH ?_
         simp only[LY]
         refine ff 37 160 hH ?_
         simp only[LY]
         refine ff 38 161 hH ?_
         simp only[LY]
         refine ff 39 162 hH ?_
         simp only[LY]
         refine ff 40 163 hH ?_
         simp only[LY]
         refine ff 41 164 hH ?_
         simp only[LY]
         refine ff 42 165 hH ?_
         simp only[LY]
         refine ff 43 166 hH ?_
         simp only[LY]
         refine ff 44 167 hH ?_
         simp only[LY]
         refine ff 45 168 hH ?_
         simp only[LY]
         refine ff 46 169 hH ?_
         simp only[LY]
         refine ff 47 170 hH ?_
         simp only[LY]
         refine ff 48 171 hH ?_
         simp only[LY]
         refine ff 49 172 hH ?_
         simp only[LY]
         refine ff 50 173 hH ?_
         simp only[LY]
         refine ff 51 174 hH ?_
         simp only[LY]
         refine ff 52 175 hH ?_
         simp only[LY]
         refine ff 53 176 hH ?_
         simp only[LY]
         refine U_tq 54 177 hH ?_
         refine U_tq 55 11 hH ?_
         clear hH
         refine im (by kernel_rfl) ?_
         have AX22:IntKind.i64.wrap ((j:Int) + 1)=(j:Int) + 1:=IntWalk.i64_in _ (by omega)
         go_wp2
         go_roundw
         case rel=>exact⟨j + 1,by omega,by go_num,congrArg Value.bool (show true=inK X Y L i k (j + 1) from (inK_yes q21H.out).symm),hs,Blb⟩
         all_goals first|(simp[intOf];done)|(simp[intOf];omega)
        obtain rfl:b19=false:=by rw[Hb19.out];simpa using q21
        have q21H:=ae q21
        clear q21
        obtain⟨B1,B2,B3,B4,le22⟩:=jf0 (be.mono IE.kept HO.out (ar HB0_2.out hs)) (show j < L.length by omega)
        obtain⟨pe22,Hpe22⟩:∃z:Pt,z=(bxZ L j).1:=⟨_,rfl⟩
        obtain⟨qe22,Hqe22⟩:∃z:Pt,z=(bxZ L j).2:=⟨_,rfl⟩
        rw[show (L.getD j ((0,0),(0,0))).1.1=pe22.1 from by rw[Hpe22];rfl] at B1
        rw[show (L.getD j ((0,0),(0,0))).1.2=pe22.2 from by rw[Hpe22];rfl] at B2
        rw[show (L.getD j ((0,0),(0,0))).2.1=qe22.1 from by rw[Hqe22];rfl] at B3
        rw[show (L.getD j ((0,0),(0,0))).2.2=qe22.2 from by rw[Hqe22];rfl] at B4
        replace Hpe22:=ae Hpe22
        replace Hqe22:=ae Hqe22
        obtain⟨B0,le23⟩:=rowI_at (HRX.out.mono IC.kept hs) (show i < X.length by omega)
        simp only[Nat.mul_one] at B0
        rw[←Hie7.out] at B0
        by_cases q24:pe22.1≤ie7
        ·have q24d:(pe22.1≤ie7)=True:=eq_true (by omega)
         have AX25:IntKind.i64.wrap ((i:Int) + 1)=(i:Int) + 1:=IntWalk.i64_in _ (by omega)
         obtain⟨B7,le26⟩:=rowI_at (HRX.out.mono IC.kept hs) (show (i + 1) < X.length by omega)
         simp only[Nat.mul_one] at B7
         rw[←Hie11.out] at B7
         by_cases q27:ie11≤qe22.1
         ·have q27d:(ie11≤qe22.1)=True:=eq_true (by omega)
          obtain⟨B5,le28⟩:=rowI_at (HRY.out.mono IC.kept hs) (show k < Y.length by omega)
          simp only[Nat.mul_one] at B5
          rw[←Hie13.out] at B5
          by_cases q29:pe22.2≤ie13
          ·have q29d:(pe22.2≤ie13)=True:=eq_true (by omega)
           have AX30:IntKind.i64.wrap ((k:Int) + 1)=(k:Int) + 1:=IntWalk.i64_in _ (by omega)
           obtain⟨Bn,le31⟩:=rowI_at (HRY.out.mono IC.kept hs) (show (k + 1) < Y.length by omega)
           simp only[Nat.mul_one] at Bn
           rw[←Hie17.out] at Bn
           refine bw (S:=fun w'=>w'.cell? ⟨ob,oo + j * 4,none⟩=some (.int .i64 pe22.1)∧w'.cell? ⟨ob,oo + j * 4 + 1,none⟩=some (.int .i64 pe22.2)∧w'.cell? ⟨ob,oo + j * 4 + 2,none⟩=some (.int .i64 qe22.1)∧w'.cell? ⟨ob,oo + j * 4 + 3,none⟩=some (.int .i64 qe22.2)∧w'.cell? ⟨xb,xo + i,none⟩=some (.int .i64 ie7)∧w'.cell? ⟨xb,xo + (i + 1),none⟩=some (.int .i64 ie11)∧w'.cell? ⟨yb,yo + k,none⟩=some (.int .i64 ie13)∧w'.cell? ⟨yb,yo + (k + 1),none⟩=some (.int .i64 ie17)) (by kernel_rfl) 56 ?_
           refine cq.abs ?_
           intro w83 hW
           have hb:Below wl3.heap.size wl3 w83:=by rw[hW];exact de _
           replace hs:=ar hs hb
           replace Blb:=Blb.mono hb
           replace B1:=ah B1 hb
           replace B2:=ah B2 hb
           replace B3:=ah B3 hb
           replace B4:=ah B4 hb
           replace B0:=ah B0 hb
           replace B7:=ah B7 hb
           replace B5:=ah B5 hb
           replace Bn:=ah Bn hb
           clear hb hW
           have hH:=(show w83.cell? ⟨ob,oo + j * 4,none⟩=some (.int .i64 pe22.1)∧w83.cell? ⟨ob,oo + j * 4 + 1,none⟩=some (.int .i64 pe22.2)∧w83.cell? ⟨ob,oo + j * 4 + 2,none⟩=some (.int .i64 qe22.1)∧w83.cell? ⟨ob,oo + j * 4 + 3,none⟩=some (.int .i64 qe22.2)∧w83.cell? ⟨xb,xo + i,none⟩=some (.int .i64 ie7)∧w83.cell? ⟨xb,xo + (i + 1),none⟩=some (.int .i64 ie11)∧w83.cell? ⟨yb,yo + k,none⟩=some (.int .i64 ie13)∧w83.cell? ⟨yb,yo + (k + 1),none⟩=some (.int .i64 ie17) from ⟨B1,B2,B3,B4,B0,B7,B5,Bn⟩)
           refine U_tq 0 123 hH ?_
           refine U_tq 1 124 hH ?_
           refine U_tq 2 125 hH ?_
           refine U_tq 3 126 hH ?_
           refine U_tq 4 127 hH ?_
           refine U_tq 5 128 hH ?_
           refine U_tq 6 129 hH ?_
           refine U_tq 7 130 hH ?_
           refine U_tq 8 131 hH ?_
           refine U_tq 9 132 hH ?_
           refine U_tq 10 133 hH ?_
           refine U_tq 11 134 hH ?_
           refine U_tq 12 135 hH ?_
           refine U_tq 13 136 hH ?_
           refine U_tq 14 137 hH ?_
           refine U_tq 15 138 hH ?_
           refine U_tq 16 139 hH ?_
           refine U_tq 17 140 hH ?_
           refine U_tq 18 141 hH ?_
           refine U_tq 19 142 hH ?_
           refine U_tq 20 143 hH ?_
           refine U_tq 21 144 hH ?_
           refine U_tq 22 145 hH ?_
           refine U_tq 23 146 hH ?_
           refine U_tq 24 147 hH ?_
           refine U_tq 25 148 hH ?_
           refine U_tq 26 149 hH ?_
           refine U_tq 27 150 hH ?_
           refine U_tq 28 151 hH ?_
           refine U_tq 29 152 hH ?_
           refine U_tq 30 153 hH ?_
           refine U_tq 31 154 hH ?_
           refine U_tq 32 155 hH ?_
           refine U_tq 33 156 hH ?_
           refine U_tq 34 157 hH ?_
           refine U_tq 35 158 hH ?_
           refine U_tq 36 159 hH ?_
           refine U_tq 37 160 hH ?_
           refine U_tq 38 161 hH ?_
           refine U_tq 39 162 hH ?_
           refine U_tq 40 163 hH ?_
           refine U_tq 41 164 hH ?_
           refine U_tq 42 165 hH ?_
           refine U_tq 43 166 hH ?_
           refine U_tq 44 167 hH ?_
           refine U_tq 45 168 hH ?_
           refine U_tq 46 169 hH ?_
           refine U_tq 47 170 hH ?_
           refine U_tq 48 171 hH ?_
           refine U_tq 49 172 hH ?_
           refine U_tq 50 173 hH ?_
           refine U_tq 51 174 hH ?_
           refine U_tq 52 175 hH ?_
           refine U_tq 53 176 hH ?_
           refine U_tq 54 177 hH ?_
           refine U_tq 55 11 hH ?_
           clear hH
           refine im (by kernel_rfl) ?_
           clear B1 B2 B3 B4 B0 B7 B5 Bn
           have AX32:IntKind.i64.wrap ((j:Int) + 1)=(j:Int) + 1:=IntWalk.i64_in _ (by omega)
           go_wp2
           go_roundw
           case rel=>exact⟨j + 1,by omega,by go_num,congrArg Value.bool (show decide (ie17≤qe22.2)=inK X Y L i k (j + 1) from (inK_no q21H.out (show inJ X Y (bxZ L j) i k=decide (ie17≤qe22.2) from by unfold inJ;rw[show (bxZ L j).1=pe22 from Hpe22.out.symm,show (bxZ L j).2=qe22 from Hqe22.out.symm];rw[decide_eq_true (show (pe22.1≤nthI X i) from by have hl0:=Hie11.out;have hl1:=Hie13.out;have hl2:=Hie17.out;have hl3:=Hie7.out;omega)];rw[decide_eq_true (show (nthI X (i + 1)≤qe22.1) from by have hl0:=Hie11.out;have hl1:=Hie13.out;have hl2:=Hie17.out;have hl3:=Hie7.out;omega)];rw[decide_eq_true (show (pe22.2≤nthI Y k) from by have hl0:=Hie11.out;have hl1:=Hie13.out;have hl2:=Hie17.out;have hl3:=Hie7.out;omega)];rw[←Hie17.out];rfl)).symm),hs,Blb⟩
           all_goals first|(simp[intOf];done)|(simp[intOf];omega)
          have q29d:(pe22.2≤ie13)=False:=eq_false (by omega)
          refine bw (S:=fun w'=>w'.cell? ⟨ob,oo + j * 4,none⟩=some (.int .i64 pe22.1)∧w'.cell? ⟨ob,oo + j * 4 + 1,none⟩=some (.int .i64 pe22.2)∧w'.cell? ⟨ob,oo + j * 4 + 2,none⟩=some (.int .i64 qe22.1)∧w'.cell? ⟨ob,oo + j * 4 + 3,none⟩=some (.int .i64 qe22.2)∧w'.cell? ⟨xb,xo + i,none⟩=some (.int .i64 ie7)∧w'.cell? ⟨xb,xo + (i + 1),none⟩=some (.int .i64 ie11)∧w'.cell? ⟨yb,yo + k,none⟩=some (.int .i64 ie13)) (by kernel_rfl) 56 ?_
          refine cq.abs ?_
          intro w83 hW
          have hb:Below wl3.heap.size wl3 w83:=by rw[hW];exact de _
          replace hs:=ar hs hb
          replace Blb:=Blb.mono hb
          replace B1:=ah B1 hb
          replace B2:=ah B2 hb
          replace B3:=ah B3 hb
          replace B4:=ah B4 hb
          replace B0:=ah B0 hb
          replace B7:=ah B7 hb
          replace B5:=ah B5 hb
          clear hb hW
          have hH:=(show w83.cell? ⟨ob,oo + j * 4,none⟩=some (.int .i64 pe22.1)∧w83.cell? ⟨ob,oo + j * 4 + 1,none⟩=some (.int .i64 pe22.2)∧w83.cell? ⟨ob,oo + j * 4 + 2,none⟩=some (.int .i64 qe22.1)∧w83.cell? ⟨ob,oo + j * 4 + 3,none⟩=some (.int .i64 qe22.2)∧w83.cell? ⟨xb,xo + i,none⟩=some (.int .i64 ie7)∧w83.cell? ⟨xb,xo + (i + 1),none⟩=some (.int .i64 ie11)∧w83.cell? ⟨yb,yo + k,none⟩=some (.int .i64 ie13) from ⟨B1,B2,B3,B4,B0,B7,B5⟩)
          refine U_tq 0 123 hH ?_
          refine U_tq 1 124 hH ?_
          refine U_tq 2 125 hH ?_
          refine U_tq 3 126 hH ?_
          refine U_tq 4 127 hH ?_
          refine U_tq 5 128 hH ?_
          refine U_tq 6 129 hH ?_
          refine U_tq 7 130 hH ?_
          refine U_tq 8 131 hH ?_
          refine U_tq 9 132 hH ?_
          refine U_tq 10 133 hH ?_
          refine U_tq 11 134 hH ?_
          refine U_tq 12 135 hH ?_
          refine U_tq 13 136 hH ?_
          refine U_tq 14 137 hH ?_
          refine U_tq 15 138 hH ?_
          refine U_tq 16 139 hH ?_
          refine U_tq 17 140 hH ?_
          refine U_tq 18 141 hH ?_
          refine U_tq 19 142 hH ?_
          refine U_tq 20 143 hH ?_
          refine U_tq 21 144 hH ?_
          refine U_tq 22 145 hH ?_
          refine U_tq 23 146 hH ?_
          refine U_tq 24 147 hH ?_
          refine U_tq 25 148 hH ?_
          refine U_tq 26 149 hH ?_
          refine U_tq 27 150 hH ?_
          refine U_tq 28 151 hH ?_
          refine U_tq 29 152 hH ?_
          refine U_tq 30 153 hH ?_
          refine U_tq 31 154 hH ?_
          refine U_tq 32 155 hH ?_
          refine U_tq 33 156 hH ?_
          refine U_tq 34 157 hH ?_
          refine U_tq 35 158 hH ?_
          refine U_tq 36 159 hH ?_
          refine U_tq 37 160 hH ?_
          refine U_tq 38 161 hH ?_
          refine U_tq 39 162 hH ?_
          refine U_tq 40 163 hH ?_
          refine ff 41 164 hH ?_
          simp only[LY]
          refine ff 42 165 hH ?_
          simp only[LY]
          refine ff 43 166 hH ?_
          simp only[LY]
          refine ff 44 167 hH ?_
          simp only[LY]
          refine ff 45 168 hH ?_
          simp only[LY]
          refine ff 46 169 hH ?_
          simp only[LY]
          refine ff 47 170 hH ?_
          simp only[LY]
          refine ff 48 171 hH ?_
          simp only[LY]
          refine ff 49 172 hH ?_
          simp only[LY]
          refine ff 50 173 hH ?_
          simp only[LY]
          refine ff 51 174 hH ?_
          simp only[LY]
          refine ff 52 175 hH ?_
          simp only[LY]
          refine U_tq 53 176 hH ?_
          refine U_tq 54 177 hH ?_
          refine U_tq 55 11 hH ?_
          clear hH
          refine im (by kernel_rfl) ?_
          clear B1 B2 B3 B4 B0 B7 B5
          have AX30:IntKind.i64.wrap ((j:Int) + 1)=(j:Int) + 1:=IntWalk.i64_in _ (by omega)
          go_wp2
          go_roundw
          case rel=>exact⟨j + 1,by omega,by go_num,congrArg Value.bool (show false=inK X Y L i k (j + 1) from (inK_no q21H.out (show inJ X Y (bxZ L j) i k=false from by unfold inJ;rw[show (bxZ L j).1=pe22 from Hpe22.out.symm,show (bxZ L j).2=qe22 from Hqe22.out.symm];rw[decide_eq_true (show (pe22.1≤nthI X i) from by have hl0:=Hie11.out;have hl1:=Hie13.out;have hl2:=Hie17.out;have hl3:=Hie7.out;omega)];rw[decide_eq_true (show (nthI X (i + 1)≤qe22.1) from by have hl0:=Hie11.out;have hl1:=Hie13.out;have hl2:=Hie17.out;have hl3:=Hie7.out;omega)];rw[decide_eq_false (show ¬ (pe22.2≤nthI Y k) from by have hl0:=Hie11.out;have hl1:=Hie13.out;have hl2:=Hie17.out;have hl3:=Hie7.out;omega)];simp)).symm),hs,Blb⟩
          all_goals first|(simp[intOf];done)|(simp[intOf];omega)
         have q27d:(ie11≤qe22.1)=False:=eq_false (by omega)
         refine bw (S:=fun w'=>w'.cell? ⟨ob,oo + j * 4,none⟩=some (.int .i64 pe22.1)∧w'.cell? ⟨ob,oo + j * 4 + 1,none⟩=some (.int .i64 pe22.2)∧w'.cell? ⟨ob,oo + j * 4 + 2,none⟩=some (.int .i64 qe22.1)∧w'.cell? ⟨ob,oo + j * 4 + 3,none⟩=some (.int .i64 qe22.2)∧w'.cell? ⟨xb,xo + i,none⟩=some (.int .i64 ie7)∧w'.cell? ⟨xb,xo + (i + 1),none⟩=some (.int .i64 ie11)) (by kernel_rfl) 56 ?_
         refine cq.abs ?_
         intro w83 hW
         have hb:Below wl3.heap.size wl3 w83:=by rw[hW];exact de _
         replace hs:=ar hs hb
         replace Blb:=Blb.mono hb
         replace B1:=ah B1 hb
         replace B2:=ah B2 hb
         replace B3:=ah B3 hb
         replace B4:=ah B4 hb
         replace B0:=ah B0 hb
         replace B7:=ah B7 hb
         clear hb hW
         have hH:=(show w83.cell? ⟨ob,oo + j * 4,none⟩=some (.int .i64 pe22.1)∧w83.cell? ⟨ob,oo + j * 4 + 1,none⟩=some (.int .i64 pe22.2)∧w83.cell? ⟨ob,oo + j * 4 + 2,none⟩=some (.int .i64 qe22.1)∧w83.cell? ⟨ob,oo + j * 4 + 3,none⟩=some (.int .i64 qe22.2)∧w83.cell? ⟨xb,xo + i,none⟩=some (.int .i64 ie7)∧w83.cell? ⟨xb,xo + (i + 1),none⟩=some (.int .i64 ie11) from ⟨B1,B2,B3,B4,B0,B7⟩)
         refine U_tq 0 123 hH ?_
         refine U_tq 1 124 hH ?_
         refine U_tq 2 125 hH ?_
         refine U_tq 3 126 hH ?_
         refine U_tq 4 127 hH ?_
         refine U_tq 5 128 hH ?_
         refine U_tq 6 129 hH ?_
         refine U_tq 7 130 hH ?_
         refine U_tq 8 131 hH ?_
         refine U_tq 9 132 hH ?_
         refine U_tq 10 133 hH ?_
         refine U_tq 11 134 hH ?_
         refine U_tq 12 135 hH ?_
         refine U_tq 13 136 hH ?_
         refine U_tq 14 137 hH ?_
         refine U_tq 15 138 hH ?_
         refine U_tq 16 139 hH ?_
         refine U_tq 17 140 hH ?_
         refine U_tq 18 141 hH ?_
         refine U_tq 19 142 hH ?_
         refine U_tq 20 143 hH ?_
         refine U_tq 21 144 hH ?_
         refine U_tq 22 145 hH ?_
         refine U_tq 23 146 hH ?_
         refine U_tq 24 147 hH ?_
         refine U_tq 25 148 hH ?_
         refine U_tq 26 149 hH ?_
         refine U_tq 27 150 hH ?_
         refine ff 28 151 hH ?_
         simp only[LY]
         refine ff 29 152 hH ?_
         simp only[LY]
         refine ff 30 153 hH ?_
         simp only[LY]
         refine ff 31 154 hH ?_
         simp only[LY]
         refine ff 32 155 hH ?_
         simp only[LY]
         refine ff 33 156 hH ?_
         simp only[LY]
         refine ff 34 157 hH ?_
         simp only[LY]
         refine ff 35 158 hH ?_
         simp only[LY]
         refine ff 36 159 hH ?_
         simp only[LY]
         refine ff 37 160 hH ?_
         simp only[LY]
         refine ff 38 161 hH ?_
         simp only[LY]
         refine U_tq 39 162 hH ?_
         refine U_tq 40 163 hH ?_
         refine ff 41 164 hH ?_
         simp only[LY]
         refine ff 42 165 hH ?_
         simp only[LY]
         refine ff 43 166 hH ?_
         simp only[LY]
         refine ff 44 167 hH ?_
         simp only[LY]
         refine ff 45 168 hH ?_
         simp only[LY]
         refine ff 46 169 hH ?_
         simp only[LY]
         refine ff 47 170 hH ?_
         simp only[LY]
         refine ff 48 171 hH ?_
         simp only[LY]
         refine ff 49 172 hH ?_
         simp only[LY]
         refine ff 50 173 hH ?_
         simp only[LY]
         refine ff 51 174 hH ?_
         simp only[LY]
         refine ff 52 175 hH ?_
         simp only[LY]
         refine U_tq 53 176 hH ?_
         refine U_tq 54 177 hH ?_
         refine U_tq 55 11 hH ?_
         clear hH
         refine im (by kernel_rfl) ?_
         clear B1 B2 B3 B4 B0 B7
         have AX28:IntKind.i64.wrap ((j:Int) + 1)=(j:Int) + 1:=IntWalk.i64_in _ (by omega)
         go_wp2
         go_roundw
         case rel=>exact⟨j + 1,by omega,by go_num,congrArg Value.bool (show false=inK X Y L i k (j + 1) from (inK_no q21H.out (show inJ X Y (bxZ L j) i k=false from by unfold inJ;rw[show (bxZ L j).1=pe22 from Hpe22.out.symm,show (bxZ L j).2=qe22 from Hqe22.out.symm];rw[decide_eq_true (show (pe22.1≤nthI X i) from by have hl0:=Hie11.out;have hl1:=Hie13.out;have hl2:=Hie17.out;have hl3:=Hie7.out;omega)];rw[decide_eq_false (show ¬ (nthI X (i + 1)≤qe22.1) from by have hl0:=Hie11.out;have hl1:=Hie13.out;have hl2:=Hie17.out;have hl3:=Hie7.out;omega)];simp)).symm),hs,Blb⟩
         all_goals first|(simp[intOf];done)|(simp[intOf];omega)
        have q24d:(pe22.1≤ie7)=False:=eq_false (by omega)
        refine bw (S:=fun w'=>w'.cell? ⟨ob,oo + j * 4,none⟩=some (.int .i64 pe22.1)∧w'.cell? ⟨ob,oo + j * 4 + 1,none⟩=some (.int .i64 pe22.2)∧w'.cell? ⟨ob,oo + j * 4 + 2,none⟩=some (.int .i64 qe22.1)∧w'.cell? ⟨ob,oo + j * 4 + 3,none⟩=some (.int .i64 qe22.2)∧w'.cell? ⟨xb,xo + i,none⟩=some (.int .i64 ie7)) (by kernel_rfl) 56 ?_
        refine cq.abs ?_
        intro w83 hW
        have hb:Below wl3.heap.size wl3 w83:=by rw[hW];exact de _
        replace hs:=ar hs hb
        replace Blb:=Blb.mono hb
        replace B1:=ah B1 hb
        replace B2:=ah B2 hb
        replace B3:=ah B3 hb
        replace B4:=ah B4 hb
        replace B0:=ah B0 hb
        clear hb hW
        have hH:=(show w83.cell? ⟨ob,oo + j * 4,none⟩=some (.int .i64 pe22.1)∧w83.cell? ⟨ob,oo + j * 4 + 1,none⟩=some (.int .i64 pe22.2)∧w83.cell? ⟨ob,oo + j * 4 + 2,none⟩=some (.int .i64 qe22.1)∧w83.cell? ⟨ob,oo + j * 4 + 3,none⟩=some (.int .i64 qe22.2)∧w83.cell? ⟨xb,xo + i,none⟩=some (.int .i64 ie7) from ⟨B1,B2,B3,B4,B0⟩)
        refine U_tq 0 123 hH ?_
        refine U_tq 1 124 hH ?_
        refine U_tq 2 125 hH ?_
        refine U_tq 3 126 hH ?_
        refine U_tq 4 127 hH ?_
        refine U_tq 5 128 hH ?_
        refine U_tq 6 129 hH ?_
        refine U_tq 7 130 hH ?_
        refine U_tq 8 131 hH ?_
        refine U_tq 9 132 hH ?_
        refine U_tq 10 133 hH ?_
        refine U_tq 11 134 hH ?_
        refine U_tq 12 135 hH ?_
        refine U_tq 13 136 hH ?_
        refine ff 14 137 hH ?_
        simp only[LY]
        refine ff 15 138 hH ?_
        simp only[LY]
        refine ff 16 139 hH ?_
        simp only[LY]
        refine ff 17 140 hH ?_
        simp only[LY]
        refine ff 18 141 hH ?_
        simp only[LY]
        refine ff 19 142 hH ?_
        simp only[LY]
        refine ff 20 143 hH ?_
        simp only[LY]
        refine ff 21 144 hH ?_
        simp only[LY]
        refine ff 22 145 hH ?_
        simp only[LY]
        refine ff 23 146 hH ?_
        simp only[LY]
        refine ff 24 147 hH ?_
        simp only[LY]
        refine ff 25 148 hH ?_
        simp only[LY]
        refine U_tq 26 149 hH ?_
        refine U_tq 27 150 hH ?_
        refine ff 28 151 hH ?_
        simp only[LY]
        refine ff 29 152 hH ?_
        simp only[LY]
        refine ff 30 153 hH ?_
        simp only[LY]
        refine ff 31 154 hH ?_
        simp only[LY]
        refine ff 32 155 hH ?_
        simp only[LY]
        refine ff 33 156 hH ?_
        simp only[LY]
        refine ff 34 157 hH ?_
        simp only[LY]
        refine ff 35 158 hH ?_
        simp only[LY]
        refine ff 36 159 hH ?_
        simp only[LY]
        refine ff 37 160 hH ?_
        simp only[LY]
        refine ff 38 161 hH ?_
        simp only[LY]
        refine U_tq 39 162 hH ?_
        refine U_tq 40 163 hH ?_
        refine ff 41 164 hH ?_
        simp only[LY]
        refine ff 42 165 hH ?_
        simp only[LY]
        refine ff 43 166 hH ?_
        simp only[LY]
        refine ff 44 167 hH ?_
        simp only[LY]
        refine ff 45 168 hH ?_
        simp only[LY]
        refine ff 46 169 hH ?_
        simp only[LY]
        refine ff 47 170 hH ?_
        simp only[LY]
        refine ff 48 171 hH ?_
        simp only[LY]
        refine ff 49 172 hH ?_
        simp only[LY]
        refine ff 50 173 hH ?_
        simp only[LY]
        refine ff 51 174 hH ?_
        simp only[LY]
        refine ff 52 175 hH ?_
        simp only[LY]
        refine U_tq 53 176 hH ?_
        refine U_tq 54 177 hH ?_
        refine U_tq 55 11 hH ?_
        clear hH
        refine im (by kernel_rfl) ?_
        clear B1 B2 B3 B4 B0
        have AX25:IntKind.i64.wrap ((j:Int) + 1)=(j:Int) + 1:=IntWalk.i64_in _ (by omega)
        go_wp2
        go_roundw
        case rel=>exact⟨j + 1,by omega,by go_num,congrArg Value.bool (show false=inK X Y L i k (j + 1) from (inK_no q21H.out (show inJ X Y (bxZ L j) i k=false from by unfold inJ;rw[show (bxZ L j).1=pe22 from Hpe22.out.symm,show (bxZ L j).2=qe22 from Hqe22.out.symm];rw[decide_eq_false (show ¬ (pe22.1≤nthI X i) from by have hl0:=Hie11.out;have hl1:=Hie13.out;have hl2:=Hie17.out;have hl3:=Hie7.out;omega)];simp)).symm),hs,Blb⟩
        all_goals first|(simp[intOf];done)|(simp[intOf];omega)
       have q20d:((j:Int) < (L.length:Int))=False:=eq_false (by omega)
       by_cases q21:inK X Y L i k j=true
       ·obtain rfl:b19=true:=by rw[Hb19.out];exact q21
        have q21H:=ae q21
        clear q21
        go_upto_region 22 with fail
        have AX22:IntKind.i64.wrap ((i:Int) + 1)=(i:Int) + 1:=IntWalk.i64_in _ (by omega)
        obtain⟨B0,le23⟩:=rowI_at (HRX.out.mono IC.kept hs) (show (i + 1) < X.length by omega)
        simp only[Nat.mul_one] at B0
        rw[←Hie11.out] at B0
        obtain⟨Bl,le24⟩:=rowI_at (HRX.out.mono IC.kept hs) (show i < X.length by omega)
        simp only[Nat.mul_one] at Bl
        rw[←Hie7.out] at Bl
        have AX25:IntKind.i64.wrap (ie11 - ie7)=ie11 - ie7:=Wn.wsub (show Wn 2097152 ie11 from by rw[Hie11.out];exact HXW.out _) (show Wn 2097152 ie7 from by rw[Hie7.out];exact HXW.out _) (by decide)
        have AX26:IntKind.i64.wrap ((k:Int) + 1)=(k:Int) + 1:=IntWalk.i64_in _ (by omega)
        obtain⟨Bm,le27⟩:=rowI_at (HRY.out.mono IC.kept hs) (show (k + 1) < Y.length by omega)
        simp only[Nat.mul_one] at Bm
        rw[←Hie17.out] at Bm
        obtain⟨B5,le28⟩:=rowI_at (HRY.out.mono IC.kept hs) (show k < Y.length by omega)
        simp only[Nat.mul_one] at B5
        rw[←Hie13.out] at B5
        have AX29:IntKind.i64.wrap (ie17 - ie13)=ie17 - ie13:=Wn.wsub (show Wn 2097152 ie17 from by rw[Hie17.out];exact HYW.out _) (show Wn 2097152 ie13 from by rw[Hie13.out];exact HYW.out _) (by decide)
        have AX30:IntKind.i64.wrap ((ie11 - ie7) * (ie17 - ie13))=(ie11 - ie7) * (ie17 - ie13):=Wn.wmul (Wn.sub (show Wn 2097152 ie11 from by rw[Hie11.out];exact HXW.out _) (show Wn 2097152 ie7 from by rw[Hie7.out];exact HXW.out _)) (Wn.sub (show Wn 2097152 ie17 from by rw[Hie17.out];exact HYW.out _) (show Wn 2097152 ie13 from by rw[Hie13.out];exact HYW.out _)) (by decide)
        have AX31:IntKind.i64.wrap (gs + (ie11 - ie7) * (ie17 - ie13))=gs + (ie11 - ie7) * (ie17 - ie13):=Wn.wadd Wgs (Wn.mul (Wn.sub (show Wn 2097152 ie11 from by rw[Hie11.out];exact HXW.out _) (show Wn 2097152 ie7 from by rw[Hie7.out];exact HXW.out _)) (Wn.sub (show Wn 2097152 ie17 from by rw[Hie17.out];exact HYW.out _) (show Wn 2097152 ie13 from by rw[Hie13.out];exact HYW.out _))) (by decide)
        refine bw (S:=fun w'=>w'.cell? ⟨xb,xo + (i + 1),none⟩=some (.int .i64 ie11)∧w'.cell? ⟨xb,xo + i,none⟩=some (.int .i64 ie7)∧w'.cell? ⟨yb,yo + (k + 1),none⟩=some (.int .i64 ie17)∧w'.cell? ⟨yb,yo + k,none⟩=some (.int .i64 ie13)) (by kernel_rfl) 24 ?_
        refine cq.abs ?_
        intro w83 hW
        have hb:Below wl3.heap.size wl3 w83:=by rw[hW];exact de _
        replace hs:=ar hs hb
        replace Blb:=Blb.mono hb
        replace B0:=ah B0 hb
        replace Bl:=ah Bl hb
        replace Bm:=ah Bm hb
        replace B5:=ah B5 hb
        clear hb hW
        have hH:=(show w83.cell? ⟨xb,xo + (i + 1),none⟩=some (.int .i64 ie11)∧w83.cell? ⟨xb,xo + i,none⟩=some (.int .i64 ie7)∧w83.cell? ⟨yb,yo + (k + 1),none⟩=some (.int .i64 ie17)∧w83.cell? ⟨yb,yo + k,none⟩=some (.int .i64 ie13) from ⟨B0,Bl,Bm,B5⟩)
        refine U_tq 0 179 hH ?_
        refine U_tq 1 180 hH ?_
        refine U_tq 2 181 hH ?_
        refine U_tq 3 182 hH ?_
        refine U_tq 4 183 hH ?_
        refine U_tq 5 184 hH ?_
        refine U_tq 6 185 hH ?_
        refine U_tq 7 186 hH ?_
        refine U_tq 8 187 hH ?_
        refine U_tq 9 188 hH ?_
        refine U_tq 10 189 hH ?_
        refine U_tq 11 190 hH ?_
        refine U_tq 12 191 hH ?_
        refine U_tq 13 192 hH ?_
        refine U_tq 14 193 hH ?_
        refine U_tq 15 194 hH ?_
        refine U_tq 16 195 hH ?_
        refine U_tq 17 196 hH ?_
        refine U_tq 18 197 hH ?_
        refine U_tq 19 198 hH ?_
        refine U_tq 20 199 hH ?_
        refine U_tq 21 200 hH ?_
        refine U_tq 22 201 hH ?_
        refine U_tq 23 8 hH ?_
        clear hH
        refine im (by kernel_rfl) ?_
        clear B0 Bl Bm B5
        have AX32:IntKind.i64.wrap ((k:Int) + 1)=(k:Int) + 1:=IntWalk.i64_in _ (by omega)
        go_wp2
        go_roundw
        case rel=>exact⟨k + 1,by omega,by go_num,congrArg (Value.int .i64) (show gs + (ie11 - ie7) * (ie17 - ie13)=gSm X Y L p q i + gRw X Y L p q i (k + 1) from by show _=gSm X Y L p q i + (gRw X Y L p q i k + gcZ X Y L p q i k);rw[gc_in (by have hl0:=Hie11.out;have hl1:=Hie13.out;have hl2:=Hie17.out;have hl3:=Hie7.out;omega) (by rw[show L.length=j from by omega];exact q21H.out),←Hie11.out,←Hie7.out,←Hie17.out,←Hie13.out];have hg:=Hgs.out;omega),hs,Blb⟩
        all_goals first|(simp[intOf];done)|(simp[intOf];omega)
       obtain rfl:b19=false:=by rw[Hb19.out];simpa using q21
       have q21H:=ae q21
       clear q21
       have AX22:IntKind.i64.wrap ((k:Int) + 1)=(k:Int) + 1:=IntWalk.i64_in _ (by omega)
       go_wp2
       go_roundw
       case rel=>exact⟨k + 1,by omega,by go_num,congrArg (Value.int .i64) (show gs=gSm X Y L p q i + gRw X Y L p q i (k + 1) from by show _=gSm X Y L p q i + (gRw X Y L p q i k + gcZ X Y L p q i k);rw[gc_no (by rw[show L.length=j from by omega];exact q21H.out)];have hg:=Hgs.out;omega),hs,Blb⟩
       all_goals first|(simp[intOf];done)|(simp[intOf];omega)
     have q6d:((k:Int) + 1 < (Y.length:Int))=False:=eq_false (by omega)
     have AX7:IntKind.i64.wrap ((i:Int) + 1)=(i:Int) + 1:=IntWalk.i64_in _ (by omega)
     go_wp2
     go_roundw
     case rel=>exact⟨i + 1,by omega,by go_num,congrArg (Value.int .i64) (show gs=gSm X Y L p q (i + 1) from by show _=gSm X Y L p q i + gRw X Y L p q i (Y.length - 1);rw[show Y.length - 1=k from by omega,Hgs.out]),hs,Blb⟩
     all_goals first|(simp[intOf];done)|(simp[intOf];omega)
   have q4d:((i:Int) + 1 < (X.length:Int))=False:=eq_false (by omega)
   go_wp2
   go_ret
   exact⟨by rw[show gpZ L p q=gSm X Y L p q i from by unfold gpZ;rw[←HX.out,←HY.out,show X.length - 1=i from by omega]];rfl,(ar HB0_2.out hs)⟩
end Go.Proofs.YtidmjdmmpajooaaGreat
