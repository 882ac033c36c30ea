/-
  The reference's words for windows: a number put into a list, the places of a window.
-/
import Derived.Test.YtidmjdmmpajooaaGreatPkW11W
import Derived.Test.YtidmjdmmpajooaaGreatPkW10W
import Derived.Test.YtidmjdmmpajooaaGreatPlAW
set_option linter.unusedSimpArgs false
set_option linter.unusedVariables false
set_option maxRecDepth 100000
set_option maxHeartbeats 16000000
namespace Go.Proofs.YtidmjdmmpajooaaGreat
open Go.RowKit Dg
attribute [local go_sem ↓] Go.wp_at_zero Go.wp_at_succ
theorem putZ_len (x:Int):∀l:List Int,l.length≤(putZ l x).length∧(putZ l x).length≤l.length + 1
 | []=>by unfold putZ;simp
 | y ::r=>by
  have ih:=putZ_len x r
  unfold putZ
  split
  ·simp only[List.length_cons];omega
  split
  ·omega
  simp only[List.length_cons];omega
def crP (sz lo hi:Int) (l:List Int) (x:Int):List Int:=if lo≤x∧x + sz≤hi then putZ l x else l
theorem crP_yes {sz lo hi x:Int} {l:List Int} (h1:lo≤x) (h2:x + sz≤hi):crP sz lo hi l x=putZ l x:=if_pos ⟨h1,h2⟩
theorem crP_no {sz lo hi x:Int} {l:List Int} (h:¬ (lo≤x∧x + sz≤hi)):crP sz lo hi l x=l:=if_neg h
def crK (l:List Int) (e sz lo hi:Int):Nat→List Int
 | 0=>l
 | k + 1=>crP sz lo hi (crK l e sz lo hi k) (e - (k:Int) * sz)
def crA (E:List Int) (sz lo hi:Int):Nat→List Int
 | 0=>[lo]
 | i + 1=>crK (crA E sz lo hi i) (nthI E i) sz lo hi 2
theorem crP_len (sz lo hi x:Int) (l:List Int):l.length≤(crP sz lo hi l x).length∧(crP sz lo hi l x).length≤l.length + 1:=by
 unfold crP
 split
 ·exact putZ_len x l
 omega
theorem crK_len (l:List Int) (e sz lo hi:Int):∀k,l.length≤(crK l e sz lo hi k).length∧(crK l e sz lo hi k).length≤l.length + k
 | 0=>⟨ag _,ag _⟩
 | k + 1=>by
  have ih:=crK_len l e sz lo hi k
  have h:=crP_len sz lo hi (e - (k:Int) * sz) (crK l e sz lo hi k)
  show _≤(crP sz lo hi (crK l e sz lo hi k) (e - (k:Int) * sz)).length∧_
  show _∧(crP sz lo hi (crK l e sz lo hi k) (e - (k:Int) * sz)).length≤_
  omega
theorem crA_len (E:List Int) (sz lo hi:Int):∀i,1≤(crA E sz lo hi i).length∧(crA E sz lo hi i).length≤1 + 2 * i
 | 0=>⟨ag _,ag _⟩
 | i + 1=>by
  have ih:=crA_len E sz lo hi i
  have h:=crK_len (crA E sz lo hi i) (nthI E i) sz lo hi 2
  show 1≤(crK (crA E sz lo hi i) (nthI E i) sz lo hi 2).length∧(crK (crA E sz lo hi i) (nthI E i) sz lo hi 2).length≤_
  omega
theorem crt_eq (E:List Int) (sz lo hi:Int):crtK E sz lo hi=putZ (crA E sz lo hi E.length) (hi - sz):=by
 have h:∀i,i≤E.length→(E.take i).foldl (fun l e=>(fun l x=>if lo≤x∧x + sz≤hi then putZ l x else l) ((fun l x=>if lo≤x∧x + sz≤hi then putZ l x else l) l e) (e - sz)) [lo]=crA E sz lo hi i:=by
  intro i
  induction i with
  | zero=>intro _;rfl
  | succ i ih=>
   intro hi'
   rw[List.take_add_one,nthI_some (show i < E.length by omega),List.foldl_append,ih (by omega)]
   show crP sz lo hi (crP sz lo hi (crA E sz lo hi i) (nthI E i)) (nthI E i - sz)=crP sz lo hi (crP sz lo hi (crA E sz lo hi i) (nthI E i - ((0:Nat):Int) * sz)) (nthI E i - ((1:Nat):Int) * sz)
   rw[show ((0:Nat):Int) * sz=0 by simp,show ((1:Nat):Int) * sz=sz by simp,Int.sub_zero]
 have:=h E.length (ag _)
 rw[List.take_length] at this
 unfold crtK
 rw[←this]
theorem r2_put (v:Value) (l:List Int) (x:Int) (w:World) (hl:Rows 1 3 IC w v l) (h0:0 < l.length) (h1:l.length≤1000):
  Calls Tryz.prog 63 #[v,.int .i64 x] w (Ret1 (fun w v=>Rows 1 3 IC w v (putZ l x)) w):=by
 obtain⟨bb,oo,cap,rfl,hc1,hc2, -⟩:=hl.open_ h0
 have hs:=Below.refl w.heap.size w
 have HL:=ae hl
 clear hl
 obtain⟨i0,hi,hz0,hz1,hz2⟩:=info_parts int_info
 go_enter Tryz.func63,Tryz.ntmps63
 go_wp2
 go_loopw [5] (fun s5 wq=>∃k:Nat,k≤l.length∧s5=.int .i64 k∧Below w.heap.size w wq∧(∀j,j < k→nthI l j < x)) (fun s5 _=>l.length - (intOf s5).toNat)
 case atStart=>exact⟨0,Nat.zero_le _,rfl,hs,(fun j h=>absurd h (Nat.not_lt_zero j))⟩
 case round=>
  clear hs
  obtain⟨k,k_le,rfl,hs,HP⟩:=hrel
  obtain⟨wl1,hwo⟩:∃x,x=wr:=⟨_,rfl⟩
  subst hwo
  replace HP:=ae HP
  by_cases q1:k < l.length
  ·have q1d:((k:Int) < (l.length:Int))=True:=eq_true (by omega)
   obtain⟨Ee2,le2⟩:=rowI_at (HL.out.mono IC.kept hs) (show k < l.length by omega)
   simp only[Nat.mul_one] at Ee2
   obtain⟨ie2,Hie2⟩:∃z:Int,z=nthI l k:=⟨_,rfl⟩
   rw[←Hie2] at Ee2
   replace Hie2:=ae Hie2
   by_cases q3:ie2 < x
   ·have q3d:(ie2 < x)=True:=eq_true (by omega)
    have AX4:IntKind.i64.wrap ((k:Int) + 1)=(k:Int) + 1:=IntWalk.i64_in _ (by omega)
    go_wp2
    go_roundw
    case rel=>exact⟨k + 1,by omega,by go_num,hs,(fun j h=>(Nat.lt_or_eq_of_le (Nat.le_of_lt_succ h)).elim (fun e=>HP.out j e) (fun e=>by rw[e,←Hie2.out];omega))⟩
    all_goals first|(simp[intOf];done)|(simp[intOf];omega)
   have q3d:(ie2 < x)=False:=eq_false (by omega)
   have hput:=put_ge HP.out k_le (by first|exact .inl (by omega)|exact .inr (by rw[←Hie2.out];omega))
   replace hput:=ae hput
   have q4:k < l.length:=q1
   have q4d:((k:Int) < (l.length:Int))=True:=eq_true (by omega)
   obtain⟨Ee5,le5⟩:=rowI_at (HL.out.mono IC.kept hs) (show k < l.length by omega)
   simp only[Nat.mul_one] at Ee5
   rw[←Hie2.out] at Ee5
   by_cases q6:ie2=x
   ·have q6b:(ie2 == x)=true:=beq_iff_eq.2 (by omega)
    have q6n:(ie2 != x)=false:=bne_eq_false_iff_eq.2 (by omega)
    have q6H:=ae q6
    clear q6
    go_wp2
    clear le2 Ee2 le5 Ee5
    go_ret
    exact⟨_,rfl,by rw[hput.out,if_pos ⟨by omega,by rw[←Hie2.out];exact q6H.out⟩];exact HL.out.mono IC.kept hs,hs⟩
   have q6b:(ie2 == x)=false:=beq_eq_false_iff_ne.2 (by omega)
   have q6n:(ie2 != x)=true:=bne_iff_ne.2 (by omega)
   have q6H:=ae q6
   clear q6
   have hp2:putZ l x=l.take k ++ [x] ++ l.drop k:=by rw[hput.out,if_neg (fun hc=>by first|omega|(have h:=hc.1;omega)|(have h:=hc.2;rw[←Hie2.out] at h;exact q6H.out h))]
   replace hp2:=ae hp2
   clear hput
   have hsa:(0:Int)≤(k:Int):=by omega
   have hsb:(k:Int)≤(l.length:Int):=by omega
   have hsc:(k:Int)≤(cap:Int):=by omega
   have hse:(cap=0)=False:=eq_false (by omega)
   go_wp2_with (at_builtin;refine wpList.stop ?_)
   refine⟨?_⟩
   clear le2 Ee2 le5 Ee5
   refine wpList.abs ?_
   intro w21 hW
   have hG:Gr [] wl1 w21:=by rw[hW];exact (Gr.refl _ _).alloc
   have sz_w21:=hs.size
   have B1:Bx w21 (wl1.heap.size) 3 #[]:=by rw[hW];exact (Bx.new0 _ _ _)
   replace hs:=hs.trans (hG.below0 hs.size)
   clear hW hG
   have hz_w21:=B1.lt
   refine wpList_rows (by rfl) _ _ IC.kept ic_one (by decide) (by rfl) Tryz.underlying53 hi hz0 hz1 hz2 (by rfl) (by omega) (by rfl) (by rfl) (cw.nilAt (size:=1) (R:=IC) (base:=w.heap.size) B1 (by first|exact ag _|omega)) ((HL.out.mono IC.kept hs).take k _ _ _ rfl (by omega)) (by unfold maxLen;simp;omega) (by simp;omega) hs.size ?_
   intro vw22 w22 hON hb1 ho
   replace hs:=hs.trans hb1
   have Ofin:=hON
   clear hON hb1 ho
   by_cases hcp:cap=k
   ·have hsd:(cap=k)=True:=eq_true hcp
    have hDr0:∀W,Below w.heap.size w W→Rows 1 3 IC W (.slice (some ⟨bb,oo,none⟩) (l.length - k) (cap - k)) (l.drop k):=fun W _=>by rw[show l.length - k=0 from by omega];exact rows_none (by omega) (by omega)
    replace hDr0:=ae hDr0
    clear hcp
    go_upto_region 7 with fail
    refine bw (S:=fun w'=>True) (by kernel_rfl) 8 ?_
    refine cq.abs ?_
    intro w23 hW
    have hb:Below w22.heap.size w22 w23:=by rw[hW];exact de _
    replace hs:=ar hs hb
    replace Ofin:=Ofin.mono IC.kept hb
    clear hb hW
    have hH:=(show True from True.intro)
    refine cz 0 ?_ ?_ hH ?_
    rotate_left
    ·(intro w hSw;(try dsimp only at hSw);go_simp;try with_reducible rfl)
    try simp only[LY]
    refine cz 1 ?_ ?_ hH ?_
    rotate_left
    ·(intro w hSw;(try dsimp only at hSw);go_simp;try with_reducible rfl)
    try simp only[LY]
    refine cz 4 ?_ ?_ hH ?_
    rotate_left
    ·(intro w hSw;(try dsimp only at hSw);go_simp;try with_reducible rfl)
    try simp only[LY]
    refine cz 5 ?_ ?_ hH ?_
    rotate_left
    ·(intro w hSw;(try dsimp only at hSw);go_simp;try with_reducible rfl)
    try simp only[LY]
    refine cz 6 ?_ ?_ hH ?_
    rotate_left
    ·(intro w hSw;(try dsimp only at hSw);go_simp;try with_reducible rfl)
    try simp only[LY]
    clear hH
    refine U_on 2 fun K hK=>?_
    go_simp
    generalize hWn:(w23.alloc (.cells #[.int .i64 x] 3))=w24
    have hb:Below w23.heap.size w23 w24:=by rw[←hWn];exact (Below.refl _ _).alloc (ag _) _
    have B0:Bx w24 (w23.heap.size) 3 #[.int .i64 x]:=by rw[←hWn];exact Bx.new _ _ _
    have sz_lx:=hs.size
    replace hs:=ar hs hb
    replace Ofin:=Ofin.mono IC.kept hb
    clear hb hWn
    refine hK.out _ _ True.intro (fun hH=>?_)
    clear hK K
    try simp only[LY]
    clear hH
    refine U_on 3 fun K hK=>?_
    have hLo:=rows_lone B0
    clear B0
    simp only[List.getElem_toArray,List.getElem_cons_succ,List.getElem_cons_zero]
    rw[if_pos (by rfl)]
    refine jg1 _ _ IC.kept ic_one (by decide) (by rfl) Tryz.underlying53 hi hz0 hz1 hz2 (by rfl) (by omega) (by rfl) (by rfl) Ofin hLo (by unfold maxLen;simp;omega) (by simp;omega) hs.size ?_
    intro vw25 w25 hON hb1 ho
    replace Ofin:=hON
    replace hs:=hs.trans hb1
    clear hON hb1 ho
    clear hLo
    refine hK.out _ _ True.intro (fun hH=>?_)
    clear hK K
    try simp only[LY]
    clear hH
    refine U_on 7 fun K hK=>?_
    simp only[List.getElem_toArray,List.getElem_cons_succ,List.getElem_cons_zero]
    rw[if_pos (by rfl)]
    refine jg1 _ _ IC.kept ic_one (by decide) (by rfl) Tryz.underlying53 hi hz0 hz1 hz2 (by rfl) (by omega) (by rfl) (by rfl) Ofin (hDr0.out _ hs) (by unfold maxLen;simp;omega) (by simp;omega) hs.size ?_
    intro vw26 w26 hON hb1 ho
    replace Ofin:=hON
    replace hs:=hs.trans hb1
    clear hON hb1 ho
    refine hK.out _ _ True.intro (fun hH=>?_)
    clear hK K
    try simp only[LY]
    clear hH
    refine dr (by kernel_rfl) rfl (by kernel_rfl) (fun K hK=>?_)
    go_simp
    refine hK.out _ _ ?_
    clear hK K
    intro wl hW
    rw[hW]
    clear hW wl
    try simp only[LY]
    go_wp2
    go_ret
    exact⟨_,rfl,by rw[hp2.out];exact Ofin.rows,hs⟩
   have hsd:(cap=k)=False:=eq_false hcp
   have hDr0:∀W,Below w.heap.size w W→Rows 1 3 IC W (.slice (some ⟨bb,oo + k,none⟩) (l.length - k) (cap - k)) (l.drop k):=fun W hb=>rows_from (HL.out.mono IC.kept hb) (by omega) rfl (by omega) (by omega)
   replace hDr0:=ae hDr0
   clear hcp
   go_upto_region 7 with fail
   refine bw (S:=fun w'=>True) (by kernel_rfl) 8 ?_
   refine cq.abs ?_
   intro w23 hW
   have hb:Below w22.heap.size w22 w23:=by rw[hW];exact de _
   replace hs:=ar hs hb
   replace Ofin:=Ofin.mono IC.kept hb
   clear hb hW
   have hH:=(show True from True.intro)
   refine cz 0 ?_ ?_ hH ?_
   rotate_left
   ·(intro w hSw;(try dsimp only at hSw);go_simp;try with_reducible rfl)
   try simp only[LY]
   refine cz 1 ?_ ?_ hH ?_
   rotate_left
   ·(intro w hSw;(try dsimp only at hSw);go_simp;try with_reducible rfl)
   try simp only[LY]
   refine cz 4 ?_ ?_ hH ?_
   rotate_left
   ·(intro w hSw;(try dsimp only at hSw);go_simp;try with_reducible rfl)
   try simp only[LY]
   refine cz 5 ?_ ?_ hH ?_
   rotate_left
   ·(intro w hSw;(try dsimp only at hSw);go_simp;try with_reducible rfl)
   try simp only[LY]
   refine cz 6 ?_ ?_ hH ?_
   rotate_left
   ·(intro w hSw;(try dsimp only at hSw);go_simp;try with_reducible rfl)
   try simp only[LY]
   clear hH
   refine U_on 2 fun K hK=>?_
   go_simp
   generalize hWn:(w23.alloc (.cells #[.int .i64 x] 3))=w24
   have hb:Below w23.heap.size w23 w24:=by rw[←hWn];exact (Below.refl _ _).alloc (ag _) _
   have B0:Bx w24 (w23.heap.size) 3 #[.int .i64 x]:=by rw[←hWn];exact Bx.new _ _ _
   have sz_lx:=hs.size
   replace hs:=ar hs hb
   replace Ofin:=Ofin.mono IC.kept hb
   clear hb hWn
   refine hK.out _ _ True.intro (fun hH=>?_)
   clear hK K
   try simp only[LY]
   clear hH
   refine U_on 3 fun K hK=>?_
   have hLo:=rows_lone B0
   clear B0
   simp only[List.getElem_toArray,List.getElem_cons_succ,List.getElem_cons_zero]
   rw[if_pos (by rfl)]
   refine jg1 _ _ IC.kept ic_one (by decide) (by rfl) Tryz.underlying53 hi hz0 hz1 hz2 (by rfl) (by omega) (by rfl) (by rfl) Ofin hLo (by unfold maxLen;simp;omega) (by simp;omega) hs.size ?_
   intro vw25 w25 hON hb1 ho
   replace Ofin:=hON
   replace hs:=hs.trans hb1
   clear hON hb1 ho
   clear hLo
   refine hK.out _ _ True.intro (fun hH=>?_)
   clear hK K
   try simp only[LY]
   clear hH
   refine U_on 7 fun K hK=>?_
   simp only[List.getElem_toArray,List.getElem_cons_succ,List.getElem_cons_zero]
   rw[if_pos (by rfl)]
   refine jg1 _ _ IC.kept ic_one (by decide) (by rfl) Tryz.underlying53 hi hz0 hz1 hz2 (by rfl) (by omega) (by rfl) (by rfl) Ofin (hDr0.out _ hs) (by unfold maxLen;simp;omega) (by simp;omega) hs.size ?_
   intro vw26 w26 hON hb1 ho
   replace Ofin:=hON
   replace hs:=hs.trans hb1
   clear hON hb1 ho
   refine hK.out _ _ True.intro (fun hH=>?_)
   clear hK K
   try simp only[LY]
   clear hH
   refine dr (by kernel_rfl) rfl (by kernel_rfl) (fun K hK=>?_)
   go_simp
   refine hK.out _ _ ?_
   clear hK K
   intro wl hW
   rw[hW]
   clear hW wl
   try simp only[LY]
   go_wp2
   go_ret
   exact⟨_,rfl,by rw[hp2.out];exact Ofin.rows,hs⟩
  have q1d:((k:Int) < (l.length:Int))=False:=eq_false (by omega)
  have hput:=put_ge HP.out k_le (.inl (by omega))
  replace hput:=ae hput
  have q2:¬ (k < l.length):=q1
  have q2d:((k:Int) < (l.length:Int))=False:=eq_false (by omega)
  have hp2:putZ l x=l.take k ++ [x] ++ l.drop k:=by rw[hput.out,if_neg (fun hc=>by have h:=hc.1;omega)]
  replace hp2:=ae hp2
  clear hput
  have hsa:(0:Int)≤(k:Int):=by omega
  have hsb:(k:Int)≤(l.length:Int):=by omega
  have hsc:(k:Int)≤(cap:Int):=by omega
  have hse:(cap=0)=False:=eq_false (by omega)
  go_wp2_with (at_builtin;refine wpList.stop ?_)
  refine⟨?_⟩
  refine wpList.abs ?_
  intro w21 hW
  have hG:Gr [] wl1 w21:=by rw[hW];exact (Gr.refl _ _).alloc
  have sz_w21:=hs.size
  have B1:Bx w21 (wl1.heap.size) 3 #[]:=by rw[hW];exact (Bx.new0 _ _ _)
  replace hs:=hs.trans (hG.below0 hs.size)
  clear hW hG
  have hz_w21:=B1.lt
  refine wpList_rows (by rfl) _ _ IC.kept ic_one (by decide) (by rfl) Tryz.underlying53 hi hz0 hz1 hz2 (by rfl) (by omega) (by rfl) (by rfl) (cw.nilAt (size:=1) (R:=IC) (base:=w.heap.size) B1 (by first|exact ag _|omega)) ((HL.out.mono IC.kept hs).take k _ _ _ rfl (by omega)) (by unfold maxLen;simp;omega) (by simp;omega) hs.size ?_
  intro vw22 w22 hON hb1 ho
  replace hs:=hs.trans hb1
  have Ofin:=hON
  clear hON hb1 ho
  by_cases hcp:cap=k
  ·have hsd:(cap=k)=True:=eq_true hcp
   have hDr0:∀W,Below w.heap.size w W→Rows 1 3 IC W (.slice (some ⟨bb,oo,none⟩) (l.length - k) (cap - k)) (l.drop k):=fun W _=>by rw[show l.length - k=0 from by omega];exact rows_none (by omega) (by omega)
   replace hDr0:=ae hDr0
   clear hcp
   go_upto_region 7 with fail
   refine bw (S:=fun w'=>True) (by kernel_rfl) 8 ?_
   refine cq.abs ?_
   intro w23 hW
   have hb:Below w22.heap.size w22 w23:=by rw[hW];exact de _
   replace hs:=ar hs hb
   replace Ofin:=Ofin.mono IC.kept hb
   clear hb hW
   have hH:=(show True from True.intro)
   refine cz 0 ?_ ?_ hH ?_
   rotate_left
   ·(intro w hSw;(try dsimp only at hSw);go_simp;try with_reducible rfl)
   try simp only[LY]
   refine cz 1 ?_ ?_ hH ?_
   rotate_left
   ·(intro w hSw;(try dsimp only at hSw);go_simp;try with_reducible rfl)
   try simp only[LY]
   refine cz 4 ?_ ?_ hH ?_
   rotate_left
   ·(intro w hSw;(try dsimp only at hSw);go_simp;try with_reducible rfl)
   try simp only[LY]
   refine cz 5 ?_ ?_ hH ?_
   rotate_left
   ·(intro w hSw;(try dsimp only at hSw);go_simp;try with_reducible rfl)
   try simp only[LY]
   refine cz 6 ?_ ?_ hH ?_
   rotate_left
   ·(intro w hSw;(try dsimp only at hSw);go_simp;try with_reducible rfl)
   try simp only[LY]
   clear hH
   refine U_on 2 fun K hK=>?_
   go_simp
   generalize hWn:(w23.alloc (.cells #[.int .i64 x] 3))=w24
   have hb:Below w23.heap.size w23 w24:=by rw[←hWn];exact (Below.refl _ _).alloc (ag _) _
   have B0:Bx w24 (w23.heap.size) 3 #[.int .i64 x]:=by rw[←hWn];exact Bx.new _ _ _
   have sz_lx:=hs.size
   replace hs:=ar hs hb
   replace Ofin:=Ofin.mono IC.kept hb
   clear hb hWn
   refine hK.out _ _ True.intro (fun hH=>?_)
   clear hK K
   try simp only[LY]
   clear hH
   refine U_on 3 fun K hK=>?_
   have hLo:=rows_lone B0
   clear B0
   simp only[List.getElem_toArray,List.getElem_cons_succ,List.getElem_cons_zero]
   rw[if_pos (by rfl)]
   refine jg1 _ _ IC.kept ic_one (by decide) (by rfl) Tryz.underlying53 hi hz0 hz1 hz2 (by rfl) (by omega) (by rfl) (by rfl) Ofin hLo (by unfold maxLen;simp;omega) (by simp;omega) hs.size ?_
   intro vw25 w25 hON hb1 ho
   replace Ofin:=hON
   replace hs:=hs.trans hb1
   clear hON hb1 ho
   clear hLo
   refine hK.out _ _ True.intro (fun hH=>?_)
   clear hK K
   try simp only[LY]
   clear hH
   refine U_on 7 fun K hK=>?_
   simp only[List.getElem_toArray,List.getElem_cons_succ,List.getElem_cons_zero]
   rw[if_pos (by rfl)]
   refine jg1 _ _ IC.kept ic_one (by decide) (by rfl) Tryz.underlying53 hi hz0 hz1 hz2 (by rfl) (by omega) (by rfl) (by rfl) Ofin (hDr0.out _ hs) (by unfold maxLen;simp;omega) (by simp;omega) hs.size ?_
   intro vw26 w26 hON hb1 ho
   replace Ofin:=hON
   replace hs:=hs.trans hb1
   clear hON hb1 ho
   refine hK.out _ _ True.intro (fun hH=>?_)
   clear hK K
   try simp only[LY]
   clear hH
   refine dr (by kernel_rfl) rfl (by kernel_rfl) (fun K hK=>?_)
   go_simp
   refine hK.out _ _ ?_
   clear hK K
   intro wl hW
   rw[hW]
   clear hW wl
   try simp only[LY]
   go_wp2
   go_ret
   exact⟨_,rfl,by rw[hp2.out];exact Ofin.rows,hs⟩
  have hsd:(cap=k)=False:=eq_false hcp
  have hDr0:∀W,Below w.heap.size w W→Rows 1 3 IC W (.slice (some ⟨bb,oo + k,none⟩) (l.length - k) (cap - k)) (l.drop k):=fun W hb=>rows_from (HL.out.mono IC.kept hb) (by omega) rfl (by omega) (by omega)
  replace hDr0:=ae hDr0
  clear hcp
  go_upto_region 7 with fail
  refine bw (S:=fun w'=>True) (by kernel_rfl) 8 ?_
  refine cq.abs ?_
  intro w23 hW
  have hb:Below w22.heap.size w22 w23:=by rw[hW];exact de _
  replace hs:=ar hs hb
  replace Ofin:=Ofin.mono IC.kept hb
  clear hb hW
  have hH:=(show True from True.intro)
  refine cz 0 ?_ ?_ hH ?_
  rotate_left
  ·(intro w hSw;(try dsimp only at hSw);go_simp;try with_reducible rfl)
  try simp only[LY]
  refine cz 1 ?_ ?_ hH ?_
  rotate_left
  ·(intro w hSw;(try dsimp only at hSw);go_simp;try with_reducible rfl)
  try simp only[LY]
  refine cz 4 ?_ ?_ hH ?_
  rotate_left
  ·(intro w hSw;(try dsimp only at hSw);go_simp;try with_reducible rfl)
  try simp only[LY]
  refine cz 5 ?_ ?_ hH ?_
  rotate_left
  ·(intro w hSw;(try dsimp only at hSw);go_simp;try with_reducible rfl)
  try simp only[LY]
  refine cz 6 ?_ ?_ hH ?_
  rotate_left
  ·(intro w hSw;(try dsimp only at hSw);go_simp;try with_reducible rfl)
  try simp only[LY]
  clear hH
  refine U_on 2 fun K hK=>?_
  go_simp
  generalize hWn:(w23.alloc (.cells #[.int .i64 x] 3))=w24
  have hb:Below w23.heap.size w23 w24:=by rw[←hWn];exact (Below.refl _ _).alloc (ag _) _
  have B0:Bx w24 (w23.heap.size) 3 #[.int .i64 x]:=by rw[←hWn];exact Bx.new _ _ _
  have sz_lx:=hs.size
  replace hs:=ar hs hb
  replace Ofin:=Ofin.mono IC.kept hb
  clear hb hWn
  refine hK.out _ _ True.intro (fun hH=>?_)
  clear hK K
  try simp only[LY]
  clear hH
  refine U_on 3 fun K hK=>?_
  have hLo:=rows_lone B0
  clear B0
  simp only[List.getElem_toArray,List.getElem_cons_succ,List.getElem_cons_zero]
  rw[if_pos (by rfl)]
  refine jg1 _ _ IC.kept ic_one (by decide) (by rfl) Tryz.underlying53 hi hz0 hz1 hz2 (by rfl) (by omega) (by rfl) (by rfl) Ofin hLo (by unfold maxLen;simp;omega) (by simp;omega) hs.size ?_
  intro vw25 w25 hON hb1 ho
  replace Ofin:=hON
  replace hs:=hs.trans hb1
  clear hON hb1 ho
  clear hLo
  refine hK.out _ _ True.intro (fun hH=>?_)
  clear hK K
  try simp only[LY]
  clear hH
  refine U_on 7 fun K hK=>?_
  simp only[List.getElem_toArray,List.getElem_cons_succ,List.getElem_cons_zero]
  rw[if_pos (by rfl)]
  refine jg1 _ _ IC.kept ic_one (by decide) (by rfl) Tryz.underlying53 hi hz0 hz1 hz2 (by rfl) (by omega) (by rfl) (by rfl) Ofin (hDr0.out _ hs) (by unfold maxLen;simp;omega) (by simp;omega) hs.size ?_
  intro vw26 w26 hON hb1 ho
  replace Ofin:=hON
  replace hs:=hs.trans hb1
  clear hON hb1 ho
  refine hK.out _ _ True.intro (fun hH=>?_)
  clear hK K
  try simp only[LY]
  clear hH
  refine dr (by kernel_rfl) rfl (by kernel_rfl) (fun K hK=>?_)
  go_simp
  refine hK.out _ _ ?_
  clear hK K
  intro wl hW
  rw[hW]
  clear hW wl
  try simp only[LY]
  go_wp2
  go_ret
  exact⟨_,rfl,by rw[hp2.out];exact Ofin.rows,hs⟩
theorem r2_critical (v:Value) (E:List Int) (sz lo hi:Int) (w:World) (hl:Rows 1 3 IC w v E) (h1:E.length≤100) (hE:∀j,j < E.length→ -4000000≤nthI E j∧nthI E j≤4000000) (z0:0≤sz) (z1:sz≤4000000) (l0: -4000000≤lo) (l1:lo≤4000000) (i0': -4000000≤hi) (i1':hi≤4000000):
  Calls Tryz.prog 34 #[v,.int .i64 sz,.int .i64 lo,.int .i64 hi] w (Ret1 (fun w v=>Rows 1 3 IC w v (crtK E sz lo hi)) w):=by
 obtain⟨al,cl,rfl, -, -, -⟩:=hl.slice
 have hs:=Below.refl w.heap.size w
 have HE:=ae hl
 have HB:=ae hE
 clear hl hE
 obtain⟨i0,hi_,hz0,hz1,hz2⟩:=info_parts int_info
 go_enter Tryz.func34,Tryz.ntmps34
 go_upto_region 2 with fail
 refine Code.abs ?_
 intro w1 hW
 have hG:Gr [] w w1:=by rw[hW];exact (Gr.refl _ _).alloc
 have sz_w1:=hs.size
 have B2:Bx w1 (w.heap.size) 3 #[.int .i64 lo]:=by rw[hW];exact (Bx.new0 _ _ _)
 replace hs:=hs.trans (hG.below0 hs.size)
 clear hW hG
 have hz_w1:=B2.lt
 have RO0:=rows_lone B2
 clear B2
 go_wp2
 go_loopw [9,10] (fun s9 s10 wq=>∃i:Nat,i≤E.length∧s10=.int .i64 i∧Below w.heap.size w wq∧Rows 1 3 IC wq s9 (crA E sz lo hi i)) (fun s9 s10 _=>E.length - (intOf s10).toNat)
 case atStart=>exact⟨0,Nat.zero_le _,rfl,hs,RO0⟩
 case round=>
  clear hs
  obtain⟨i,k_le,rfl,hs,RO⟩:=hrel
  obtain⟨wl1,hwo⟩:∃x,x=wr:=⟨_,rfl⟩
  subst hwo
  obtain⟨aRO,kRO,rfl,RO1,RO2, -⟩:=RO.toI.slice
  by_cases q1:i < E.length
  ·have q1d:((i:Int) < (E.length:Int))=True:=eq_true (by omega)
   go_wp2
   go_loopw [9,11] (fun s9 s11 wq=>∃k:Nat,k≤2∧s11=.int .i64 k∧Below w.heap.size w wq∧Rows 1 3 IC wq (.slice aRO (crA E sz lo hi i).length kRO) ((crA E sz lo hi i))∧Rows 1 3 IC wq s9 (crK (crA E sz lo hi i) (nthI E i) sz lo hi k)) (fun s9 s11 _=>2 - (intOf s11).toNat)
   case atStart=>exact⟨0,Nat.zero_le _,rfl,hs,RO,RO⟩
   case round=>
    clear RO hs
    obtain⟨k,k_le,rfl,hs,RO,RI⟩:=hrel
    obtain⟨wl2,hwo⟩:∃x,x=wr:=⟨_,rfl⟩
    subst hwo
    obtain⟨aRI,kRI,rfl,RI1,RI2, -⟩:=RI.toI.slice
    by_cases q2:k < 2
    ·have q2d:((k:Int) < 2)=True:=eq_true (by omega)
     obtain⟨bb,oo,cap,hv_,hc1,hc2, -⟩:=HE.out.open_ (by omega)
     obtain⟨rfl,rfl⟩:=yk hv_
     clear hv_
     obtain⟨mk5,Hmk5⟩:∃z:Int,z=((k:Int)) * sz:=⟨_,rfl⟩
     have hmk5:mk5=0∨mk5=sz:=by rw[Hmk5];rcases (show k=0∨k=1 from by omega) with e|e<;>subst e<;>simp
     have AX4:IntKind.i64.wrap (((k:Int)) * sz)=mk5:=by rw[←Hmk5];exact IntWalk.i64_in _ (by omega)
     replace Hmk5:=ae Hmk5
     obtain⟨Ee3,le3⟩:=rowI_at (HE.out.mono IC.kept hs) (show i < E.length by omega)
     simp only[Nat.mul_one] at Ee3
     obtain⟨ie3,Hie3⟩:∃z:Int,z=nthI E i:=⟨_,rfl⟩
     rw[←Hie3] at Ee3
     have bie3:=HB.out i (by omega)
     rw[←Hie3] at bie3
     replace Hie3:=ae Hie3
     have AX6:IntKind.i64.wrap (ie3 - mk5)=ie3 - mk5:=IntWalk.i64_in _ (by omega)
     by_cases q7:lo≤ie3 - mk5
     ·have q7d:(lo≤ie3 - mk5)=True:=eq_true (by omega)
      have AX8:IntKind.i64.wrap (ie3 - mk5 + sz)=ie3 - mk5 + sz:=IntWalk.i64_in _ (by omega)
      by_cases q9:ie3 - mk5 + sz≤hi
      ·have q9d:(ie3 - mk5 + sz≤hi)=True:=eq_true (by omega)
       go_wp2_with fail
       clear le3 Ee3
       with_reducible refine (r2_put _ (crK (crA E sz lo hi i) (nthI E i) sz lo hi k) (ie3 - mk5) _ RI (by have:=(crK_len (crA E sz lo hi i) (nthI E i) sz lo hi k).1;have:=(crA_len E sz lo hi i).1;omega) (by have:=(crK_len (crA E sz lo hi i) (nthI E i) sz lo hi k).2;have:=(crA_len E sz lo hi i).2;omega)).mono ?_
       rintro e w42 ⟨_,rfl,pu10,hb⟩
       obtain⟨apu10,kpu10,rfl,pu101,pu102,pu103⟩:=pu10.toI.slice
       replace hs:=ar hs hb
       replace RO:=el IC.kept _ _ _ RO hb
       replace RI:=el IC.kept _ _ _ RI hb
       clear hb
       have AX11:IntKind.i64.wrap ((k:Int) + 1)=(k:Int) + 1:=IntWalk.i64_in _ (by omega)
       go_wp2
       go_roundw
       case rel=>exact⟨k + 1,by omega,by go_num,hs,RO,(by rw[show crK (crA E sz lo hi i) (nthI E i) sz lo hi (k + 1)=crP sz lo hi (crK (crA E sz lo hi i) (nthI E i) sz lo hi k) (ie3 - mk5) from by rw[Hie3.out,Hmk5.out];rfl,crP_yes (by omega) (by omega)];exact pu10)⟩
       all_goals first|(simp[intOf];done)|(simp[intOf];omega)
      have q9d:(ie3 - mk5 + sz≤hi)=False:=eq_false (by omega)
      have AX10:IntKind.i64.wrap ((k:Int) + 1)=(k:Int) + 1:=IntWalk.i64_in _ (by omega)
      go_wp2
      go_roundw
      case rel=>exact⟨k + 1,by omega,by go_num,hs,RO,(by rw[show crK (crA E sz lo hi i) (nthI E i) sz lo hi (k + 1)=crP sz lo hi (crK (crA E sz lo hi i) (nthI E i) sz lo hi k) (ie3 - mk5) from by rw[Hie3.out,Hmk5.out];rfl,crP_no (by omega)];exact RI)⟩
      all_goals first|(simp[intOf];done)|(simp[intOf];omega)
     have q7d:(lo≤ie3 - mk5)=False:=eq_false (by omega)
     have AX8:IntKind.i64.wrap ((k:Int) + 1)=(k:Int) + 1:=IntWalk.i64_in _ (by omega)
     go_wp2
     go_roundw
     case rel=>exact⟨k + 1,by omega,by go_num,hs,RO,(by rw[show crK (crA E sz lo hi i) (nthI E i) sz lo hi (k + 1)=crP sz lo hi (crK (crA E sz lo hi i) (nthI E i) sz lo hi k) (ie3 - mk5) from by rw[Hie3.out,Hmk5.out];rfl,crP_no (by omega)];exact RI)⟩
     all_goals first|(simp[intOf];done)|(simp[intOf];omega)
    have q2d:((k:Int) < 2)=False:=eq_false (by omega)
    have AX3:IntKind.i64.wrap ((i:Int) + 1)=(i:Int) + 1:=IntWalk.i64_in _ (by omega)
    go_wp2
    go_roundw
    case rel=>exact⟨i + 1,by omega,by go_num,hs,(by rw[show crA E sz lo hi (i + 1)=crK (crA E sz lo hi i) (nthI E i) sz lo hi 2 from rfl,show 2=k from by omega];exact RI)⟩
    all_goals first|(simp[intOf];done)|(simp[intOf];omega)
  have q1d:((i:Int) < (E.length:Int))=False:=eq_false (by omega)
  have AX2:IntKind.i64.wrap (hi - sz)=hi - sz:=IntWalk.i64_in _ (by omega)
  go_wp2_with fail
  with_reducible refine (r2_put _ (crA E sz lo hi i) (hi - sz) _ RO (by have:=(crA_len E sz lo hi i).1;omega) (by have:=(crA_len E sz lo hi i).2;omega)).mono ?_
  rintro e w22 ⟨_,rfl,pu3,hb⟩
  obtain⟨apu3,kpu3,rfl,pu31,pu32,pu33⟩:=pu3.toI.slice
  replace hs:=ar hs hb
  replace RO:=el IC.kept _ _ _ RO hb
  clear hb
  go_wp2
  go_ret
  exact⟨_,rfl,by rw[crt_eq,show E.length=i from by omega];exact pu3,hs⟩
end Go.Proofs.YtidmjdmmpajooaaGreat
