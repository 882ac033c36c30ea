/-
  plane: the ends of boxes, the places of a window, how much of each part lies in a window.
-/
import Derived.Test.YtidmjdmmpajooaaGreatPkW17W
set_option linter.unusedSimpArgs false
set_option linter.unusedVariables false
set_option maxRecDepth 100000
set_option maxHeartbeats 16000000
namespace Go.Proofs.YtidmjdmmpajooaaGreat
open Go.RowKit Dg
attribute [local go_sem ↓] Go.wp_at_zero Go.wp_at_succ
theorem own_duo {base g:Nat} {x y:Int} {w:World} (h:Bx w g 3 #[.int .i64 x,.int .i64 y]) (hb:base≤g):cw base 3 1 IC w (.slice (some ⟨g,0,none⟩) 2 2) [x,y]:=
 ⟨[[.int .i64 x],[.int .i64 y]],rfl,by simp,fun i cs z hc hz=>(by
  match i with
  | 0=>cases hc;cases hz;rfl
  | 1=>cases hc;cases hz;rfl
  | i + 2=>simp at hc),rfl,.inr ⟨g,2,#[.int .i64 x,.int .i64 y],rfl,hb,h,ag _,by unfold maxLen;omega,rfl,rfl⟩⟩
def pB (l:List Int) (x lo hi sz:Int):Nat→List Int
 | 0=>l
 | k + 1=>if lo≤(if k=0 then x else x - sz)∧(if k=0 then x else x - sz)≤hi - sz then pB l x lo hi sz k ++ [if k=0 then x else x - sz] else pB l x lo hi sz k
def pA (E:List Int) (lo hi sz:Int):Nat→List Int
 | 0=>[lo,hi - sz]
 | i + 1=>pB (pA E lo hi sz i) (nthI E i) lo hi sz 2
theorem pB_yes {l:List Int} {x lo hi sz y:Int} {k:Nat} (hy:y=if k=0 then x else x - sz) (h:lo≤y∧y≤hi - sz):pB l x lo hi sz (k + 1)=pB l x lo hi sz k ++ [y]:=by subst hy;exact if_pos h
theorem pB_no {l:List Int} {x lo hi sz y:Int} {k:Nat} (hy:y=if k=0 then x else x - sz) (h:¬ (lo≤y∧y≤hi - sz)):pB l x lo hi sz (k + 1)=pB l x lo hi sz k:=by subst hy;exact if_neg h
theorem pB_len (l:List Int) (x lo hi sz:Int):∀k,(pB l x lo hi sz k).length≤l.length + k
 | 0=>ag _
 | k + 1=>by
  have ih:=pB_len l x lo hi sz k
  by_cases c:lo≤(if k=0 then x else x - sz)∧(if k=0 then x else x - sz)≤hi - sz
  ·rw[pB_yes rfl c,List.length_append,List.length_singleton];omega
  rw[pB_no rfl c];omega
theorem filt2 (p:Int→Bool) (a b:Int):[a,b].filter p=(if p a=true then [a] else []) ++ (if p b=true then [b] else []):=by
 rw[List.filter_cons,List.filter_cons,List.filter_nil]
 cases p a<;>cases p b<;>rfl
theorem pA_len (E:List Int) (lo hi sz:Int):∀i,(pA E lo hi sz i).length≤2 + 2 * i
 | 0=>ag _
 | i + 1=>by
  have ih:=pA_len E lo hi sz i
  have h:=pB_len (pA E lo hi sz i) (nthI E i) lo hi sz 2
  show (pB (pA E lo hi sz i) (nthI E i) lo hi sz 2).length≤_
  omega
theorem pA_eq (E:List Int) (lo hi sz:Int):axZ (pA E lo hi sz E.length)=plK2 E lo hi sz:=by
 have h:∀i,i≤E.length→pA E lo hi sz i=[lo,hi - sz] ++ ((E.take i).flatMap fun x=>[x,x - sz]).filter fun y=>decide (lo≤y) && decide (y≤hi - sz):=by
  intro i
  induction i with
  | zero=>intro _;rfl
  | succ i ih=>
   intro hi'
   rw[List.take_add_one,nthI_some (show i < E.length by omega),List.flatMap_append,List.filter_append,←List.append_assoc,←ih (by omega)]
   show pB (pA E lo hi sz i) (nthI E i) lo hi sz 2=_
   have e1:pB (pA E lo hi sz i) (nthI E i) lo hi sz 1=if lo≤nthI E i∧nthI E i≤hi - sz then pA E lo hi sz i ++ [nthI E i] else pA E lo hi sz i:=rfl
   have e2:pB (pA E lo hi sz i) (nthI E i) lo hi sz 2=if lo≤nthI E i - sz∧nthI E i - sz≤hi - sz then pB (pA E lo hi sz i) (nthI E i) lo hi sz 1 ++ [nthI E i - sz] else pB (pA E lo hi sz i) (nthI E i) lo hi sz 1:=rfl
   show _=pA E lo hi sz i ++ (List.flatMap (fun x=>[x,x - sz]) [nthI E i]).filter _
   rw[show List.flatMap (fun x=>[x,x - sz]) [nthI E i]=[nthI E i,nthI E i - sz] from rfl,filt2,e2,e1]
   have q:∀y:Int,((decide (lo≤y) && decide (y≤hi - sz))=true)↔(lo≤y∧y≤hi - sz):=fun y=>by rw[Bool.and_eq_true,decide_eq_true_eq,decide_eq_true_eq]
   by_cases c:lo≤nthI E i∧nthI E i≤hi - sz
   ·rw[if_pos c,if_pos ((q _).2 c)]
    by_cases d:lo≤nthI E i - sz∧nthI E i - sz≤hi - sz
    ·rw[if_pos d,if_pos ((q _).2 d),List.append_assoc]
    rw[if_neg d,if_neg (fun h=>d ((q _).1 h)),List.append_nil]
   rw[if_neg c,if_neg (fun h=>c ((q _).1 h)),List.nil_append]
   by_cases d:lo≤nthI E i - sz∧nthI E i - sz≤hi - sz
   ·rw[if_pos d,if_pos ((q _).2 d)]
   rw[if_neg d,if_neg (fun h=>d ((q _).1 h)),List.append_nil]
 unfold plK2
 rw[h _ (ag _),List.take_length]
def prL (X:List Int) (lo hi:Int):Nat→List Int
 | 0=>[]
 | k + 1=>prL X lo hi k ++ [wdZ (nthI X k) (nthI X (k + 1)) lo hi]
theorem prL_len (X:List Int) (lo hi:Int):∀k,(prL X lo hi k).length=k
 | 0=>rfl
 | k + 1=>by show (prL X lo hi k ++ [_]).length=_;rw[List.length_append,prL_len X lo hi k];rfl
theorem pl_wX (p:Pt) (w:World):
  Calls Tryz.prog 25 #[.agg #[.int .i64 p.1,.int .i64 p.2]] w (fj w (.int .i64 p.1)):=by
 have hs:=Below.refl w.heap.size w
 go_enter Tryz.func25,Tryz.ntmps25
 go_wp2
 refine bodyPost.abs ?_
 intro w1 hW
 have hG:Gr [] w w1:=by rw[hW];exact (Gr.refl _ _).alloc
 have sz_w1:=hs.size
 have Blp:Bx w1 (w.heap.size) 24 #[.int .i64 p.1,.int .i64 p.2]:=by rw[hW];exact (Bx.new0 _ _ _)
 replace hs:=hs.trans (hG.below0 hs.size)
 clear hW hG
 have hz_w1:=Blp.lt
 go_ret
 exact⟨rfl,hs⟩
theorem pl_wY (p:Pt) (w:World):
  Calls Tryz.prog 26 #[.agg #[.int .i64 p.1,.int .i64 p.2]] w (fj w (.int .i64 p.2)):=by
 have hs:=Below.refl w.heap.size w
 go_enter Tryz.func26,Tryz.ntmps26
 go_wp2
 refine bodyPost.abs ?_
 intro w1 hW
 have hG:Gr [] w w1:=by rw[hW];exact (Gr.refl _ _).alloc
 have sz_w1:=hs.size
 have Blp:Bx w1 (w.heap.size) 24 #[.int .i64 p.1,.int .i64 p.2]:=by rw[hW];exact (Bx.new0 _ _ _)
 replace hs:=hs.trans (hG.below0 hs.size)
 clear hW hG
 have hz_w1:=Blp.lt
 go_ret
 exact⟨rfl,hs⟩
theorem pl_axX (v:Value) (L:List Bxx) (w:World) (hl:Bxs w v L) (h4:L.length≤24):
  Calls Tryz.prog 24 #[v,.func (.func 25) #[] #[]] w (Ret1 (fun w v=>Rows 1 3 IC w v (axZ (exX L L.length))) w):=by
 obtain⟨ao,cl,rfl, -, -, -⟩:=hl.slice
 have hs:=Below.refl w.heap.size w
 have HO:=ae hl
 clear hl
 obtain⟨i0,hi,hz0,hz1,hz2⟩:=info_parts int_info
 go_enter Tryz.func24,Tryz.ntmps24
 go_wp2
 go_loopw [5,10] (fun s5 s10 wq=>∃a:Nat,a≤L.length∧s10=.int .i64 a∧Below w.heap.size w wq∧cw w.heap.size 3 1 IC wq s5 (exX L a)) (fun s5 s10 _=>L.length - (intOf s10).toNat)
 case atStart=>exact⟨0,Nat.zero_le _,rfl,hs,cw.nil _ _ _ _ _⟩
 case round=>
  clear hs
  obtain⟨a,k_le,rfl,hs,Oou⟩:=hrel
  obtain⟨wl0,hwo⟩:∃x,x=wr:=⟨_,rfl⟩
  subst hwo
  by_cases q1:a < L.length
  ·have q1d:((a:Int) < (L.length:Int))=True:=eq_true (by omega)
   obtain⟨ob,oo,oc,hv_,hpc1,hpc2⟩:=ep HO.out (by omega)
   obtain⟨rfl,rfl⟩:=yk hv_
   clear hv_
   have hobL:ob < w.heap.size:=(jf0 HO.out (show 0 < L.length by omega)).2.2.2.2
   obtain⟨B5,B6,B7,B8,le2⟩:=jf0 (be.mono IE.kept HO.out hs) (show a < L.length by omega)
   obtain⟨pe2,Hpe2⟩:∃z:Pt,z=(bxZ L a).1:=⟨_,rfl⟩
   obtain⟨qe2,Hqe2⟩:∃z:Pt,z=(bxZ L a).2:=⟨_,rfl⟩
   rw[show (L.getD a ((0,0),(0,0))).1.1=pe2.1 from by rw[Hpe2];rfl] at B5
   rw[show (L.getD a ((0,0),(0,0))).1.2=pe2.2 from by rw[Hpe2];rfl] at B6
   rw[show (L.getD a ((0,0),(0,0))).2.1=qe2.1 from by rw[Hqe2];rfl] at B7
   rw[show (L.getD a ((0,0),(0,0))).2.2=qe2.2 from by rw[Hqe2];rfl] at B8
   replace Hpe2:=ae Hpe2
   replace Hqe2:=ae Hqe2
   go_upto_region 5 with fail
   clear le2 B5 B6 B7 B8
   refine Code.abs ?_
   intro w21 hW
   have hG:Gr [] wl0 w21:=by rw[hW];exact (Gr.refl _ _).alloc
   have sz_w21:=hs.size
   have Blb:Bx w21 (wl0.heap.size) 26 #[.int .i64 pe2.1,.int .i64 pe2.2,.int .i64 qe2.1,.int .i64 qe2.2]:=by rw[hW];exact (Bx.new0 _ _ _)
   replace hs:=hs.trans (hG.below0 hs.size)
   replace Oou:=Oou.mono IC.kept (hG.below0 (ag _))
   clear hW hG
   have hz_w21:=Blb.lt
   refine bw (S:=fun w'=>w'.cell? ⟨wl0.heap.size,0,none⟩=some (.int .i64 pe2.1)∧w'.cell? ⟨wl0.heap.size,1,none⟩=some (.int .i64 pe2.2)∧w'.cell? ⟨wl0.heap.size,2,none⟩=some (.int .i64 qe2.1)∧w'.cell? ⟨wl0.heap.size,3,none⟩=some (.int .i64 qe2.2)) (by kernel_rfl) 11 ?_
   refine cq.abs ?_
   intro w22 hW
   have hb:Below w21.heap.size w21 w22:=by rw[hW];exact de _
   replace hs:=ar hs hb
   replace Blb:=Blb.mono hb
   replace Oou:=Oou.mono IC.kept hb
   clear hb hW
   refine Blb.k4 fun B0 B1 B2 B3=>?_
   have hH:=(show w22.cell? ⟨wl0.heap.size,0,none⟩=some (.int .i64 pe2.1)∧w22.cell? ⟨wl0.heap.size,1,none⟩=some (.int .i64 pe2.2)∧w22.cell? ⟨wl0.heap.size,2,none⟩=some (.int .i64 qe2.1)∧w22.cell? ⟨wl0.heap.size,3,none⟩=some (.int .i64 qe2.2) from ⟨B0,B1,B2,B3⟩)
   refine cz 0 ?_ ?_ hH ?_
   rotate_left
   ·(intro w hSw;(try dsimp only at hSw);go_simp;try with_reducible rfl)
   try simp only[LY]
   refine cz 1 ?_ ?_ hH ?_
   rotate_left
   ·(intro w hSw;(try dsimp only at hSw);go_simp;try with_reducible rfl)
   try simp only[LY]
   refine cz 2 ?_ ?_ hH ?_
   rotate_left
   ·(intro w hSw;(try dsimp only at hSw);go_simp;try with_reducible rfl)
   try simp only[LY]
   refine cz 3 ?_ ?_ hH ?_
   rotate_left
   ·(intro w hSw;(try dsimp only at hSw);go_simp;try with_reducible rfl)
   try simp only[LY]
   refine cz 5 ?_ ?_ hH ?_
   rotate_left
   ·(intro w hSw;(try dsimp only at hSw);go_simp;try with_reducible rfl)
   try simp only[LY]
   refine cz 6 ?_ ?_ hH ?_
   rotate_left
   ·(intro w hSw;(try dsimp only at hSw);go_simp;try with_reducible rfl)
   try simp only[LY]
   refine cz 7 ?_ ?_ hH ?_
   rotate_left
   ·(intro w hSw;(try dsimp only at hSw);go_simp;try with_reducible rfl)
   try simp only[LY]
   clear hH
   refine U_on 4 fun K hK=>?_
   go_simp
   (with_reducible refine (pl_wX pe2 _).mono ?_)
   rintro e w23 ⟨rfl,hb⟩
   replace hs:=ar hs hb
   replace Blb:=Blb.mono hb
   replace Oou:=Oou.mono IC.kept hb
   replace B0:=ah B0 hb
   replace B1:=ah B1 hb
   replace B2:=ah B2 hb
   replace B3:=ah B3 hb
   clear hb
   try go_wp2_with fail
   refine hK.out _ _ ⟨B0,B1,B2,B3⟩ (fun hH=>?_)
   clear hK K
   try simp only[LY]
   clear hH
   refine U_on 8 fun K hK=>?_
   go_simp
   (with_reducible refine (pl_wX qe2 _).mono ?_)
   rintro e w24 ⟨rfl,hb⟩
   replace hs:=ar hs hb
   replace Blb:=Blb.mono hb
   replace Oou:=Oou.mono IC.kept hb
   replace B0:=ah B0 hb
   replace B1:=ah B1 hb
   replace B2:=ah B2 hb
   replace B3:=ah B3 hb
   clear hb
   try go_wp2_with fail
   refine hK.out _ _ ⟨B0,B1,B2,B3⟩ (fun hH=>?_)
   clear hK K
   try simp only[LY]
   clear hH
   refine U_on 9 fun K hK=>?_
   go_simp
   generalize hWn:(w24.alloc (.cells #[.int .i64 pe2.1,.int .i64 qe2.1] 3))=w25
   have hb:Below w24.heap.size w24 w25:=by rw[←hWn];exact (Below.refl _ _).alloc (ag _) _
   have B4:Bx w25 (w24.heap.size) 3 #[.int .i64 pe2.1,.int .i64 qe2.1]:=by rw[←hWn];exact Bx.new _ _ _
   have nb_ls:wl0.heap.size≠w24.heap.size:=by have:=Blb.lt;omega
   have sz_ls:=hs.size
   replace hs:=ar hs hb
   replace Blb:=Blb.mono hb
   replace Oou:=Oou.mono IC.kept hb
   replace B0:=ah B0 hb
   replace B1:=ah B1 hb
   replace B2:=ah B2 hb
   replace B3:=ah B3 hb
   clear hb hWn
   refine hK.out _ _ ⟨B0,B1,B2,B3⟩ (fun hH=>?_)
   clear hK K
   try simp only[LY]
   clear hH
   refine U_on 10 fun K hK=>?_
   obtain⟨css,ho1,ho2,ho3,hown0⟩:=Oou
   simp only[List.getElem_toArray,List.getElem_cons_succ,List.getElem_cons_zero]
   rw[if_pos (by rfl)]
   refine wp_append_lies _ _ _ _ (by rfl) w.heap.size 3 i0 _ 1 8 Tryz.underlying53 hi hz0 hz1 hz2 (by rfl) (by omega) _ _ css.flatten (by rfl) hown0 ⟨w24.heap.size,0,none⟩ 2 2 [.int .i64 pe2.1,.int .i64 qe2.1] (by rfl) (by rfl) B4.news ?_ (by omega) ?_ ?_ ?_ _ rfl ?_
   ·intro u hu;simp only[List.mem_cons,List.mem_nil_iff,or_false] at hu;rcases hu with rfl|rfl<;>rfl
   ·unfold maxLen;(have:=exX_len L a;omega)
   ·(have:=exX_len L a;omega)
   ·exact hs.size
   intro gou capou w26 hown1 hgrow hat hlt
   have hk:=aw.owns hown0 hgrow (by decide)
   have ho:=iu hown0 hgrow
   replace hs:=hs.grown hgrow hs.size (fun k hk=>(hown0.lt k hk).1)
   replace Oou:=cw.pushTwo IC.kept ho1 ho2 ho3 (x:=pe2.1) (y:=qe2.1) (cs:=[.int .i64 pe2.1]) (ds:=[.int .i64 qe2.1]) rfl rfl rfl rfl hown1 hk
   replace Blb:=Blb.only ho (by decide)
   replace B0:=Blb.at 0 rfl
   replace B1:=Blb.at 1 rfl
   replace B2:=Blb.at 2 rfl
   replace B3:=Blb.at 3 rfl
   clear hk ho ho1 ho2 ho3 hown0 hown1 hgrow B4
   refine hK.out _ _ ⟨B0,B1,B2,B3⟩ (fun hH=>?_)
   clear hK K
   try simp only[LY]
   clear hH
   refine dr (by kernel_rfl) rfl (by kernel_rfl) (fun K hK=>?_)
   go_simp
   refine hK.out _ _ ?_
   clear hK K
   intro wl hW
   rw[hW]
   clear hW wl
   try simp only[LY]
   clear B0 B1 B2 B3
   go_wp2
   go_roundw
   case rel=>exact⟨a + 1,by omega,by go_num,hs,(by rw[show exX L (a + 1)=exX L a ++ [(bxZ L a).1.1] ++ [(bxZ L a).2.1] from rfl,show (bxZ L a).1=pe2 from Hpe2.out.symm,show (bxZ L a).2=qe2 from Hqe2.out.symm];exact Oou)⟩
   all_goals first|(simp[intOf];done)|(simp[intOf];omega)
  have q1d:((a:Int) < (L.length:Int))=False:=eq_false (by omega)
  rw[show a=L.length from by omega] at Oou
  have hel:=exX_len L L.length
  go_wp2_with fail
  with_reducible refine (sl_SortI _ Oou (by omega) hs.size).mono ?_
  rintro e w21 ⟨rfl,hOs,hb⟩
  replace hs:=hs.trans hb
  clear hb Oou
  go_wp2_with fail
  with_reducible refine (sl_CmpI _ hOs (by rw[List.length_mergeSort];omega) hs.size).mono ?_
  rintro e w22 ⟨vC,rfl,hOc,hb⟩
  replace hs:=hs.trans hb
  clear hb hOs
  go_wp2
  go_ret
  exact⟨_,rfl,hOc.rows,hs⟩
theorem pl_axY (v:Value) (L:List Bxx) (w:World) (hl:Bxs w v L) (h4:L.length≤24):
  Calls Tryz.prog 24 #[v,.func (.func 26) #[] #[]] w (Ret1 (fun w v=>Rows 1 3 IC w v (axZ (exY L L.length))) w):=by
 obtain⟨ao,cl,rfl, -, -, -⟩:=hl.slice
 have hs:=Below.refl w.heap.size w
 have HO:=ae hl
 clear hl
 obtain⟨i0,hi,hz0,hz1,hz2⟩:=info_parts int_info
 go_enter Tryz.func24,Tryz.ntmps24
 go_wp2
 go_loopw [5,10] (fun s5 s10 wq=>∃a:Nat,a≤L.length∧s10=.int .i64 a∧Below w.heap.size w wq∧cw w.heap.size 3 1 IC wq s5 (exY L a)) (fun s5 s10 _=>L.length - (intOf s10).toNat)
 case atStart=>exact⟨0,Nat.zero_le _,rfl,hs,cw.nil _ _ _ _ _⟩
 case round=>
  clear hs
  obtain⟨a,k_le,rfl,hs,Oou⟩:=hrel
  obtain⟨wl0,hwo⟩:∃x,x=wr:=⟨_,rfl⟩
  subst hwo
  by_cases q1:a < L.length
  ·have q1d:((a:Int) < (L.length:Int))=True:=eq_true (by omega)
   obtain⟨ob,oo,oc,hv_,hpc1,hpc2⟩:=ep HO.out (by omega)
   obtain⟨rfl,rfl⟩:=yk hv_
   clear hv_
   have hobL:ob < w.heap.size:=(jf0 HO.out (show 0 < L.length by omega)).2.2.2.2
   obtain⟨B5,B6,B7,B8,le2⟩:=jf0 (be.mono IE.kept HO.out hs) (show a < L.length by omega)
   obtain⟨pe2,Hpe2⟩:∃z:Pt,z=(bxZ L a).1:=⟨_,rfl⟩
   obtain⟨qe2,Hqe2⟩:∃z:Pt,z=(bxZ L a).2:=⟨_,rfl⟩
   rw[show (L.getD a ((0,0),(0,0))).1.1=pe2.1 from by rw[Hpe2];rfl] at B5
   rw[show (L.getD a ((0,0),(0,0))).1.2=pe2.2 from by rw[Hpe2];rfl] at B6
   rw[show (L.getD a ((0,0),(0,0))).2.1=qe2.1 from by rw[Hqe2];rfl] at B7
   rw[show (L.getD a ((0,0),(0,0))).2.2=qe2.2 from by rw[Hqe2];rfl] at B8
   replace Hpe2:=ae Hpe2
   replace Hqe2:=ae Hqe2
   go_upto_region 5 with fail
   clear le2 B5 B6 B7 B8
   refine Code.abs ?_
   intro w21 hW
   have hG:Gr [] wl0 w21:=by rw[hW];exact (Gr.refl _ _).alloc
   have sz_w21:=hs.size
   have Blb:Bx w21 (wl0.heap.size) 26 #[.int .i64 pe2.1,.int .i64 pe2.2,.int .i64 qe2.1,.int .i64 qe2.2]:=by rw[hW];exact (Bx.new0 _ _ _)
   replace hs:=hs.trans (hG.below0 hs.size)
   replace Oou:=Oou.mono IC.kept (hG.below0 (ag _))
   clear hW hG
   have hz_w21:=Blb.lt
   refine bw (S:=fun w'=>w'.cell? ⟨wl0.heap.size,0,none⟩=some (.int .i64 pe2.1)∧w'.cell? ⟨wl0.heap.size,1,none⟩=some (.int .i64 pe2.2)∧w'.cell? ⟨wl0.heap.size,2,none⟩=some (.int .i64 qe2.1)∧w'.cell? ⟨wl0.heap.size,3,none⟩=some (.int .i64 qe2.2)) (by kernel_rfl) 11 ?_
   refine cq.abs ?_
   intro w22 hW
   have hb:Below w21.heap.size w21 w22:=by rw[hW];exact de _
   replace hs:=ar hs hb
   replace Blb:=Blb.mono hb
   replace Oou:=Oou.mono IC.kept hb
   clear hb hW
   refine Blb.k4 fun B0 B1 B2 B3=>?_
   have hH:=(show w22.cell? ⟨wl0.heap.size,0,none⟩=some (.int .i64 pe2.1)∧w22.cell? ⟨wl0.heap.size,1,none⟩=some (.int .i64 pe2.2)∧w22.cell? ⟨wl0.heap.size,2,none⟩=some (.int .i64 qe2.1)∧w22.cell? ⟨wl0.heap.size,3,none⟩=some (.int .i64 qe2.2) from ⟨B0,B1,B2,B3⟩)
   refine cz 0 ?_ ?_ hH ?_
   rotate_left
   ·(intro w hSw;(try dsimp only at hSw);go_simp;try with_reducible rfl)
   try simp only[LY]
   refine cz 1 ?_ ?_ hH ?_
   rotate_left
   ·(intro w hSw;(try dsimp only at hSw);go_simp;try with_reducible rfl)
   try simp only[LY]
   refine cz 2 ?_ ?_ hH ?_
   rotate_left
   ·(intro w hSw;(try dsimp only at hSw);go_simp;try with_reducible rfl)
   try simp only[LY]
   refine cz 3 ?_ ?_ hH ?_
   rotate_left
   ·(intro w hSw;(try dsimp only at hSw);go_simp;try with_reducible rfl)
   try simp only[LY]
   refine cz 5 ?_ ?_ hH ?_
   rotate_left
   ·(intro w hSw;(try dsimp only at hSw);go_simp;try with_reducible rfl)
   try simp only[LY]
   refine cz 6 ?_ ?_ hH ?_
   rotate_left
   ·(intro w hSw;(try dsimp only at hSw);go_simp;try with_reducible rfl)
   try simp only[LY]
   refine cz 7 ?_ ?_ hH ?_
   rotate_left
   ·(intro w hSw;(try dsimp only at hSw);go_simp;try with_reducible rfl)
   try simp only[LY]
   clear hH
   refine U_on 4 fun K hK=>?_
   go_simp
   (with_reducible refine (pl_wY pe2 _).mono ?_)
   rintro e w23 ⟨rfl,hb⟩
   replace hs:=ar hs hb
   replace Blb:=Blb.mono hb
   replace Oou:=Oou.mono IC.kept hb
   replace B0:=ah B0 hb
   replace B1:=ah B1 hb
   replace B2:=ah B2 hb
   replace B3:=ah B3 hb
   clear hb
   try go_wp2_with fail
   refine hK.out _ _ ⟨B0,B1,B2,B3⟩ (fun hH=>?_)
   clear hK K
   try simp only[LY]
   clear hH
   refine U_on 8 fun K hK=>?_
   go_simp
   (with_reducible refine (pl_wY qe2 _).mono ?_)
   rintro e w24 ⟨rfl,hb⟩
   replace hs:=ar hs hb
   replace Blb:=Blb.mono hb
   replace Oou:=Oou.mono IC.kept hb
   replace B0:=ah B0 hb
   replace B1:=ah B1 hb
   replace B2:=ah B2 hb
   replace B3:=ah B3 hb
   clear hb
   try go_wp2_with fail
   refine hK.out _ _ ⟨B0,B1,B2,B3⟩ (fun hH=>?_)
   clear hK K
   try simp only[LY]
   clear hH
   refine U_on 9 fun K hK=>?_
   go_simp
   generalize hWn:(w24.alloc (.cells #[.int .i64 pe2.2,.int .i64 qe2.2] 3))=w25
   have hb:Below w24.heap.size w24 w25:=by rw[←hWn];exact (Below.refl _ _).alloc (ag _) _
   have B4:Bx w25 (w24.heap.size) 3 #[.int .i64 pe2.2,.int .i64 qe2.2]:=by rw[←hWn];exact Bx.new _ _ _
   have nb_ls:wl0.heap.size≠w24.heap.size:=by have:=Blb.lt;omega
   have sz_ls:=hs.size
   replace hs:=ar hs hb
   replace Blb:=Blb.mono hb
   replace Oou:=Oou.mono IC.kept hb
   replace B0:=ah B0 hb
   replace B1:=ah B1 hb
   replace B2:=ah B2 hb
   replace B3:=ah B3 hb
   clear hb hWn
   refine hK.out _ _ ⟨B0,B1,B2,B3⟩ (fun hH=>?_)
   clear hK K
   try simp only[LY]
   clear hH
   refine U_on 10 fun K hK=>?_
   obtain⟨css,ho1,ho2,ho3,hown0⟩:=Oou
   simp only[List.getElem_toArray,List.getElem_cons_succ,List.getElem_cons_zero]
   rw[if_pos (by rfl)]
   refine wp_append_lies _ _ _ _ (by rfl) w.heap.size 3 i0 _ 1 8 Tryz.underlying53 hi hz0 hz1 hz2 (by rfl) (by omega) _ _ css.flatten (by rfl) hown0 ⟨w24.heap.size,0,none⟩ 2 2 [.int .i64 pe2.2,.int .i64 qe2.2] (by rfl) (by rfl) B4.news ?_ (by omega) ?_ ?_ ?_ _ rfl ?_
   ·intro u hu;simp only[List.mem_cons,List.mem_nil_iff,or_false] at hu;rcases hu with rfl|rfl<;>rfl
   ·unfold maxLen;(have:=exY_len L a;omega)
   ·(have:=exY_len L a;omega)
   ·exact hs.size
   intro gou capou w26 hown1 hgrow hat hlt
   have hk:=aw.owns hown0 hgrow (by decide)
   have ho:=iu hown0 hgrow
   replace hs:=hs.grown hgrow hs.size (fun k hk=>(hown0.lt k hk).1)
   replace Oou:=cw.pushTwo IC.kept ho1 ho2 ho3 (x:=pe2.2) (y:=qe2.2) (cs:=[.int .i64 pe2.2]) (ds:=[.int .i64 qe2.2]) rfl rfl rfl rfl hown1 hk
   replace Blb:=Blb.only ho (by decide)
   replace B0:=Blb.at 0 rfl
   replace B1:=Blb.at 1 rfl
   replace B2:=Blb.at 2 rfl
   replace B3:=Blb.at 3 rfl
   clear hk ho ho1 ho2 ho3 hown0 hown1 hgrow B4
   refine hK.out _ _ ⟨B0,B1,B2,B3⟩ (fun hH=>?_)
   clear hK K
   try simp only[LY]
   clear hH
   refine dr (by kernel_rfl) rfl (by kernel_rfl) (fun K hK=>?_)
   go_simp
   refine hK.out _ _ ?_
   clear hK K
   intro wl hW
   rw[hW]
   clear hW wl
   try simp only[LY]
   clear B0 B1 B2 B3
   go_wp2
   go_roundw
   case rel=>exact⟨a + 1,by omega,by go_num,hs,(by rw[show exY L (a + 1)=exY L a ++ [(bxZ L a).1.2] ++ [(bxZ L a).2.2] from rfl,show (bxZ L a).1=pe2 from Hpe2.out.symm,show (bxZ L a).2=qe2 from Hqe2.out.symm];exact Oou)⟩
   all_goals first|(simp[intOf];done)|(simp[intOf];omega)
  have q1d:((a:Int) < (L.length:Int))=False:=eq_false (by omega)
  rw[show a=L.length from by omega] at Oou
  have hel:=exY_len L L.length
  go_wp2_with fail
  with_reducible refine (sl_SortI _ Oou (by omega) hs.size).mono ?_
  rintro e w21 ⟨rfl,hOs,hb⟩
  replace hs:=hs.trans hb
  clear hb Oou
  go_wp2_with fail
  with_reducible refine (sl_CmpI _ hOs (by rw[List.length_mergeSort];omega) hs.size).mono ?_
  rintro e w22 ⟨vC,rfl,hOc,hb⟩
  replace hs:=hs.trans hb
  clear hb hOs
  go_wp2
  go_ret
  exact⟨_,rfl,hOc.rows,hs⟩
theorem pl_places (v:Value) (E:List Int) (lo hi sz:Int) (w:World) (hl:Rows 1 3 IC w v E) (h1:E.length≤100) (hE:∀j,j < E.length→ -4000000≤nthI E j∧nthI E j≤4000000) (z0:0≤sz) (z1:sz≤4000000) (l0: -4000000≤lo) (l1:lo≤4000000) (i0': -4000000≤hi) (i1':hi≤4000000):
  Calls Tryz.prog 30 #[v,.int .i64 lo,.int .i64 hi,.int .i64 sz] w (Ret1 (fun w v=>Rows 1 3 IC w v (plK2 E lo hi sz)) w):=by
 obtain⟨al,cl,rfl, -, -, -⟩:=hl.slice
 have hs:=Below.refl w.heap.size w
 have HE:=ae hl
 have HB:=ae hE
 clear hl hE
 obtain⟨i0,hi_,hz0,hz1,hz2⟩:=info_parts int_info
 go_enter Tryz.func30,Tryz.ntmps30
 have AX1:IntKind.i64.wrap (hi - sz)=hi - sz:=IntWalk.i64_in _ (by omega)
 go_upto_region 2 with fail
 refine Code.abs ?_
 intro w1 hW
 have hG:Gr [] w w1:=by rw[hW];exact (Gr.refl _ _).alloc
 have sz_w1:=hs.size
 have B9:Bx w1 (w.heap.size) 3 #[.int .i64 lo,.int .i64 (hi - sz)]:=by rw[hW];exact (Bx.new0 _ _ _)
 replace hs:=hs.trans (hG.below0 hs.size)
 clear hW hG
 have hz_w1:=B9.lt
 have OU0:=own_duo (base:=w.heap.size) B9 (by first|exact ag _|omega)
 clear B9
 go_wp2
 go_loopw [9,21] (fun s9 s21 wq=>∃i:Nat,i≤E.length∧s21=.int .i64 i∧Below w.heap.size w wq∧cw w.heap.size 3 1 IC wq s9 (pA E lo hi sz i)) (fun s9 s21 _=>E.length - (intOf s21).toNat)
 case atStart=>exact⟨0,Nat.zero_le _,rfl,hs,OU0⟩
 case round=>
  clear hs
  obtain⟨i,k_le,rfl,hs,Oou⟩:=hrel
  obtain⟨wl1,hwo⟩:∃x,x=wr:=⟨_,rfl⟩
  subst hwo
  by_cases q2:i < E.length
  ·have q2d:((i:Int) < (E.length:Int))=True:=eq_true (by omega)
   obtain⟨bb,oo,cap,hv_,hc1,hc2, -⟩:=HE.out.open_ (by omega)
   obtain⟨rfl,rfl⟩:=yk hv_
   clear hv_
   obtain⟨Ee3,le3⟩:=rowI_at (HE.out.mono IC.kept hs) (show i < E.length by omega)
   simp only[Nat.mul_one] at Ee3
   obtain⟨ie3,Hie3⟩:∃z:Int,z=nthI E i:=⟨_,rfl⟩
   rw[←Hie3] at Ee3
   have bie3:=HB.out i (by omega)
   rw[←Hie3] at bie3
   replace Hie3:=ae Hie3
   have AX4:IntKind.i64.wrap (ie3 - sz)=ie3 - sz:=IntWalk.i64_in _ (by omega)
   go_wp2
   clear le3 Ee3
   go_loopw [9,30] (fun s9 s30 wq=>∃k:Nat,k≤2∧s30=.int .i64 k∧Below w.heap.size w wq∧cw w.heap.size 3 1 IC wq s9 (pB (pA E lo hi sz i) (nthI E i) lo hi sz k)) (fun s9 s30 _=>2 - (intOf s30).toNat)
   case atStart=>exact⟨0,Nat.zero_le _,rfl,hs,Oou⟩
   case round=>
    clear hs
    obtain⟨k,k_le,rfl,hs,Oin⟩:=hrel
    obtain⟨wl2,hwo⟩:∃x,x=wr:=⟨_,rfl⟩
    subst hwo
    by_cases q5:k < 2
    ·have q5d:((k:Int) < 2)=True:=eq_true (by omega)
     obtain⟨yk,Hyk⟩:∃z:Int,z=if k=0 then ie3 else ie3 - sz:=⟨_,rfl⟩
     have IX_:∀w:World,(Instr.index 60 (.agg #[.int .i64 ie3,.int .i64 (ie3 - sz)]) (.int .i64 k)).run Tryz.prog w=.ok (.int .i64 yk) w:=by intro w;rw[Hyk];rcases (show k=0∨k=1 by omega) with e|e<;>subst e<;>rfl
     have hyk:yk=ie3∨yk=ie3 - sz:=by rw[Hyk];split;exact .inl rfl;exact .inr rfl
     replace Hyk:=ae Hyk
     by_cases q6:lo≤yk
     ·have q6d:(lo≤yk)=True:=eq_true (by omega)
      have AX7:IntKind.i64.wrap (hi - sz)=hi - sz:=IntWalk.i64_in _ (by omega)
      by_cases q8:yk≤hi - sz
      ·have q8d:(yk≤hi - sz)=True:=eq_true (by omega)
       go_wp2_with (at_builtin;refine wpList.stop ?_)
       refine⟨?_⟩
       refine wpList.abs ?_
       intro w42 hW
       have hG:Gr [] wl2 w42:=by rw[hW];exact (Gr.refl _ _).alloc
       have sz_w42:=hs.size
       have B4:Bx w42 (wl2.heap.size) 3 #[.int .i64 yk]:=by rw[hW];exact (Bx.new0 _ _ _)
       replace hs:=hs.trans (hG.below0 hs.size)
       replace Oin:=Oin.mono IC.kept (hG.below0 (ag _))
       clear hW hG
       have hz_w42:=B4.lt
       obtain⟨css,ho1,ho2,ho3,hown0⟩:=Oin
       refine wpList_append_lies _ rfl _ _ _ rfl w.heap.size 3 i0 _ 1 8 Tryz.underlying53 hi_ hz0 hz1 hz2 rfl (by omega) _ _ css.flatten rfl hown0 ⟨wl2.heap.size,0,none⟩ 1 1 [.int .i64 yk] rfl rfl B4.news ?_ (by omega) ?_ ?_ ?_ _ rfl ?_
       ·intro u hu;simp only[List.mem_cons,List.mem_nil_iff,or_false] at hu;rcases hu with rfl<;>rfl
       ·unfold maxLen;(have:=pA_len E lo hi sz i;have:=pB_len (pA E lo hi sz i) (nthI E i) lo hi sz k;omega)
       ·(have:=pA_len E lo hi sz i;have:=pB_len (pA E lo hi sz i) (nthI E i) lo hi sz k;omega)
       ·exact hs.size
       intro gin capin w43 hown1 hgrow hat hlt_
       have hk_:=aw.owns hown0 hgrow (by decide)
       have ho:=iu hown0 hgrow
       replace hs:=hs.grown hgrow hs.size (fun k hk=>(hown0.lt k hk).1)
       replace Oin:=cw.push' IC.kept ho1 ho2 ho3 (x:=yk) rfl rfl (by simp) hown1 hk_
       clear hk_ ho ho1 ho2 ho3 hown0 hown1 hgrow hat hlt_ B4
       have AX9:IntKind.i64.wrap ((k:Int) + 1)=(k:Int) + 1:=IntWalk.i64_in _ (by omega)
       go_wp2
       go_roundw
       case rel=>exact⟨k + 1,by omega,by go_num,hs,(by rw[pB_yes (y:=yk) (by rw[Hyk.out,Hie3.out]) (by omega)];exact Oin)⟩
       all_goals first|(simp[intOf];done)|(simp[intOf];omega)
      have q8d:(yk≤hi - sz)=False:=eq_false (by omega)
      have AX9:IntKind.i64.wrap ((k:Int) + 1)=(k:Int) + 1:=IntWalk.i64_in _ (by omega)
      go_wp2
      go_roundw
      case rel=>exact⟨k + 1,by omega,by go_num,hs,(by rw[pB_no (y:=yk) (by rw[Hyk.out,Hie3.out]) (by omega)];exact Oin)⟩
      all_goals first|(simp[intOf];done)|(simp[intOf];omega)
     have q6d:(lo≤yk)=False:=eq_false (by omega)
     have AX7:IntKind.i64.wrap ((k:Int) + 1)=(k:Int) + 1:=IntWalk.i64_in _ (by omega)
     go_wp2
     go_roundw
     case rel=>exact⟨k + 1,by omega,by go_num,hs,(by rw[pB_no (y:=yk) (by rw[Hyk.out,Hie3.out]) (by omega)];exact Oin)⟩
     all_goals first|(simp[intOf];done)|(simp[intOf];omega)
    have q5d:((k:Int) < 2)=False:=eq_false (by omega)
    have AX6:IntKind.i64.wrap ((i:Int) + 1)=(i:Int) + 1:=IntWalk.i64_in _ (by omega)
    go_wp2
    go_roundw
    case rel=>exact⟨i + 1,by omega,by go_num,hs,(by rw[show pA E lo hi sz (i + 1)=pB (pA E lo hi sz i) (nthI E i) lo hi sz 2 from rfl,show 2=k from by omega];exact Oin)⟩
    all_goals first|(simp[intOf];done)|(simp[intOf];omega)
  have q2d:((i:Int) < (E.length:Int))=False:=eq_false (by omega)
  rw[show i=E.length from by omega] at Oou
  have hpl:=pA_len E lo hi sz E.length
  go_wp2_with fail
  with_reducible refine (sl_SortI _ Oou (by omega) hs.size).mono ?_
  rintro e w22 ⟨rfl,hOs,hb⟩
  replace hs:=hs.trans hb
  clear hb Oou
  go_wp2_with fail
  with_reducible refine (sl_CmpI _ hOs (by rw[List.length_mergeSort];omega) hs.size).mono ?_
  rintro e w23 ⟨vC,rfl,hOc,hb⟩
  replace hs:=hs.trans hb
  clear hb hOs
  go_wp2
  go_ret
  exact⟨_,rfl,by rw[←pA_eq];exact hOc.rows,hs⟩
theorem pl_parts (v:Value) (E:List Int) (lo hi:Int) (w:World) (hl:Rows 1 3 IC w v E) (h1:E.length≤100) (hE:∀j,j < E.length→ -4000000≤nthI E j∧nthI E j≤4000000) (l0: -4000000≤lo) (l1:lo≤4000000) (i0': -4000000≤hi) (i1':hi≤4000000):
  Calls Tryz.prog 31 #[v,.int .i64 lo,.int .i64 hi] w (Ret1 (fun w v=>Rows 1 3 IC w v (prL E lo hi (E.length - 1))) w):=by
 obtain⟨al,cl,rfl, -, -, -⟩:=hl.slice
 obtain⟨nn,hn1,hn2,hn3⟩:∃n:Nat,1≤n∧E.length≤n∧(n=1∨n=E.length):=by
  by_cases h:E.length=0
  ·exact⟨1,ag _,by omega,.inl rfl⟩
  exact⟨E.length,by omega,ag _,.inr rfl⟩
 have hs:=Below.refl w.heap.size w
 have HE:=ae hl
 have HB:=ae hE
 clear hl hE
 obtain⟨i0,hi_,hz0,hz1,hz2⟩:=info_parts int_info
 go_enter Tryz.func31,Tryz.ntmps31
 go_wp2
 go_loopw [7,8] (fun s7 s8 wq=>∃i:Nat,1≤i∧i≤nn∧s8=.int .i64 i∧Below w.heap.size w wq∧cw w.heap.size 3 1 IC wq s7 (prL E lo hi (i - 1))) (fun s7 s8 _=>nn - (intOf s8).toNat)
 case atStart=>exact⟨1,ag _,hn1,rfl,hs,cw.nil _ _ _ _ _⟩
 case round=>
  clear hs
  obtain⟨i,k_ge,k_le,rfl,hs,Oou⟩:=hrel
  obtain⟨wl1,hwo⟩:∃x,x=wr:=⟨_,rfl⟩
  subst hwo
  by_cases q1:i < E.length
  ·have q1d:((i:Int) < (E.length:Int))=True:=eq_true (by omega)
   obtain⟨bb,oo,cap,hv_,hc1,hc2, -⟩:=HE.out.open_ (by omega)
   obtain⟨rfl,rfl⟩:=yk hv_
   clear hv_
   have hbbL:bb < w.heap.size:=(rowI_at HE.out (show 0 < E.length by omega)).2
   have fia:(i < E.length)=True:=eq_true (by omega)
   have fib:(i - 1 < E.length)=True:=eq_true (by omega)
   go_upto_region 5 with fail
   obtain⟨Ee2,le2⟩:=rowI_at (HE.out.mono IC.kept hs) (show i < E.length by omega)
   simp only[Nat.mul_one] at Ee2
   obtain⟨ie2,Hie2⟩:∃z:Int,z=nthI E i:=⟨_,rfl⟩
   rw[←Hie2] at Ee2
   have bie2:=HB.out i (by omega)
   rw[←Hie2] at bie2
   replace Hie2:=ae Hie2
   have AX3:IntKind.i64.wrap ((i:Int) - 1)=(i:Int) - 1:=IntWalk.i64_in _ (by omega)
   have SW4a:=IntWalk.i64_in ((i:Int) - 1) (by omega)
   have SW4b:(0:Int)≤(i:Int) - 1:=by omega
   have SW4c:((i:Int) - 1).toNat=(i - 1):=by omega
   have SW4d:(i:Int) - 1 < (E.length:Int):=by omega
   have SW4e:(1:Int)≤(i:Int):=by omega
   have SW4f:(i:Int) < (E.length:Int) + 1:=by omega
   obtain⟨Ee5,le5⟩:=rowI_at (HE.out.mono IC.kept hs) (show (i - 1) < E.length by omega)
   simp only[Nat.mul_one] at Ee5
   obtain⟨ie5,Hie5⟩:∃z:Int,z=nthI E (i - 1):=⟨_,rfl⟩
   rw[←Hie5] at Ee5
   have bie5:=HB.out (i - 1) (by omega)
   rw[←Hie5] at bie5
   replace Hie5:=ae Hie5
   have AX6:IntKind.i64.wrap ((min ie2 hi) - (max ie5 lo))=(min ie2 hi) - (max ie5 lo):=IntWalk.i64_in _ (by omega)
   refine bw (S:=fun w'=>w'.cell? ⟨bb,oo + i,none⟩=some (.int .i64 ie2)∧w'.cell? ⟨bb,oo + (i - 1),none⟩=some (.int .i64 ie5)) (by kernel_rfl) 18 ?_
   refine cq.abs ?_
   intro w21 hW
   have hb:Below wl1.heap.size wl1 w21:=by rw[hW];exact de _
   replace hs:=ar hs hb
   replace Oou:=Oou.mono IC.kept hb
   replace Ee2:=ah Ee2 hb
   replace Ee5:=ah Ee5 hb
   clear hb hW
   have hH:=(show w21.cell? ⟨bb,oo + i,none⟩=some (.int .i64 ie2)∧w21.cell? ⟨bb,oo + (i - 1),none⟩=some (.int .i64 ie5) from ⟨Ee2,Ee5⟩)
   refine cz 0 ?_ ?_ hH ?_
   rotate_left
   ·(intro w hSw;(try dsimp only at hSw);go_simp;try with_reducible rfl)
   try simp only[LY]
   refine cz 1 ?_ ?_ hH ?_
   rotate_left
   ·(intro w hSw;(try dsimp only at hSw);go_simp;try with_reducible rfl)
   try simp only[LY]
   refine cz 2 ?_ ?_ hH ?_
   rotate_left
   ·(intro w hSw;(try dsimp only at hSw);go_simp;try with_reducible rfl)
   try simp only[LY]
   refine cz 3 ?_ ?_ hH ?_
   rotate_left
   ·(intro w hSw;(try dsimp only at hSw);go_simp;try with_reducible rfl)
   try simp only[LY]
   refine cz 4 ?_ ?_ hH ?_
   rotate_left
   ·(intro w hSw;(try dsimp only at hSw);go_simp;try with_reducible rfl)
   try simp only[LY]
   refine cz 5 ?_ ?_ hH ?_
   rotate_left
   ·(intro w hSw;(try dsimp only at hSw);go_simp;try with_reducible rfl)
   try simp only[LY]
   refine cz 6 ?_ ?_ hH ?_
   rotate_left
   ·(intro w hSw;(try dsimp only at hSw);go_simp;try with_reducible rfl)
   try simp only[LY]
   refine cz 7 ?_ ?_ hH ?_
   rotate_left
   ·(intro w hSw;(try dsimp only at hSw);go_simp;try with_reducible rfl)
   try simp only[LY]
   refine cz 8 ?_ ?_ hH ?_
   rotate_left
   ·(intro w hSw;(try dsimp only at hSw);go_simp;try with_reducible rfl)
   try simp only[LY]
   refine cz 9 ?_ ?_ hH ?_
   rotate_left
   ·(intro w hSw;(try dsimp only at hSw);go_simp;try with_reducible rfl)
   try simp only[LY]
   refine cz 10 ?_ ?_ hH ?_
   rotate_left
   ·(intro w hSw;(try dsimp only at hSw);go_simp;try with_reducible rfl)
   try simp only[LY]
   refine cz 11 ?_ ?_ hH ?_
   rotate_left
   ·(intro w hSw;(try dsimp only at hSw);go_simp;try with_reducible rfl)
   try simp only[LY]
   refine cz 12 ?_ ?_ hH ?_
   rotate_left
   ·(intro w hSw;(try dsimp only at hSw);go_simp;try with_reducible rfl)
   try simp only[LY]
   refine cz 13 ?_ ?_ hH ?_
   rotate_left
   ·(intro w hSw;(try dsimp only at hSw);go_simp;try with_reducible rfl)
   try simp only[LY]
   refine cz 14 ?_ ?_ hH ?_
   rotate_left
   ·(intro w hSw;(try dsimp only at hSw);go_simp;try with_reducible rfl)
   try simp only[LY]
   refine cz 15 ?_ ?_ hH ?_
   rotate_left
   ·(intro w hSw;(try dsimp only at hSw);go_simp;try with_reducible rfl)
   try simp only[LY]
   clear hH
   refine U_on 16 fun K hK=>?_
   go_simp
   generalize hWn:(w21.alloc (.cells #[.int .i64 (max 0 ((min ie2 hi) - (max ie5 lo)))] 3))=w22
   have hb:Below w21.heap.size w21 w22:=by rw[←hWn];exact (Below.refl _ _).alloc (ag _) _
   have B4:Bx w22 (w21.heap.size) 3 #[.int .i64 (max 0 ((min ie2 hi) - (max ie5 lo)))]:=by rw[←hWn];exact Bx.new _ _ _
   have sz_ls:=hs.size
   replace hs:=ar hs hb
   replace Oou:=Oou.mono IC.kept hb
   replace Ee2:=ah Ee2 hb
   replace Ee5:=ah Ee5 hb
   clear hb hWn
   refine hK.out _ _ ⟨Ee2,Ee5⟩ (fun hH=>?_)
   clear hK K
   try simp only[LY]
   clear hH
   refine U_on 17 fun K hK=>?_
   obtain⟨css,ho1,ho2,ho3,hown0⟩:=Oou
   simp only[List.getElem_toArray,List.getElem_cons_succ,List.getElem_cons_zero]
   rw[if_pos (by rfl)]
   refine wp_append_lies _ _ _ _ (by rfl) w.heap.size 3 i0 _ 1 8 Tryz.underlying53 hi_ hz0 hz1 hz2 (by rfl) (by omega) _ _ css.flatten (by rfl) hown0 ⟨w21.heap.size,0,none⟩ 1 1 [.int .i64 (max 0 ((min ie2 hi) - (max ie5 lo)))] (by rfl) (by rfl) B4.news ?_ (by omega) ?_ ?_ ?_ _ rfl ?_
   ·intro u hu;simp only[List.mem_cons,List.mem_nil_iff,or_false] at hu;rcases hu with rfl<;>rfl
   ·unfold maxLen;(have:=prL_len E lo hi (i - 1);omega)
   ·(have:=prL_len E lo hi (i - 1);omega)
   ·exact hs.size
   intro gou capou w23 hown1 hgrow hat hlt
   have hk:=aw.owns hown0 hgrow (by decide)
   have ho:=iu hown0 hgrow
   replace Ee2:=hgrow.cell Ee2 (fun e=>by have:=(hown0.lt _ e.symm).1;simp only at this;omega)
   replace Ee5:=hgrow.cell Ee5 (fun e=>by have:=(hown0.lt _ e.symm).1;simp only at this;omega)
   replace hs:=hs.grown hgrow hs.size (fun k hk=>(hown0.lt k hk).1)
   replace Oou:=cw.push IC.kept ho1 ho2 ho3 (x:=max 0 ((min ie2 hi) - (max ie5 lo))) rfl rfl hown1 hk
   clear hk ho ho1 ho2 ho3 hown0 hown1 hgrow B4
   refine hK.out _ _ ⟨Ee2,Ee5⟩ (fun hH=>?_)
   clear hK K
   try simp only[LY]
   clear hH
   refine dr (by kernel_rfl) rfl (by kernel_rfl) (fun K hK=>?_)
   go_simp
   refine hK.out _ _ ?_
   clear hK K
   intro wl hW
   rw[hW]
   clear hW wl
   try simp only[LY]
   clear Ee2 Ee5
   have AX7:IntKind.i64.wrap ((i:Int) + 1)=(i:Int) + 1:=IntWalk.i64_in _ (by omega)
   go_wp2
   go_roundw
   case rel=>exact⟨i + 1,by omega,by omega,by go_num,hs,(by rw[show i + 1 - 1=(i - 1) + 1 from by omega,show prL E lo hi (i - 1 + 1)=prL E lo hi (i - 1) ++ [wdZ (nthI E (i - 1)) (nthI E (i - 1 + 1)) lo hi] from rfl,show i - 1 + 1=i from by omega,show wdZ (nthI E (i - 1)) (nthI E i) lo hi=max 0 ((min ie2 hi) - (max ie5 lo)) from by unfold wdZ;rw[←Hie5.out,←Hie2.out]];exact Oou)⟩
   all_goals first|(simp[intOf];done)|(simp[intOf];omega)
  have q1d:((i:Int) < (E.length:Int))=False:=eq_false (by omega)
  go_wp2
  go_ret
  exact⟨_,rfl,by rw[show E.length - 1=i - 1 from by omega];exact Oou.rows,hs⟩
end Go.Proofs.YtidmjdmmpajooaaGreat
