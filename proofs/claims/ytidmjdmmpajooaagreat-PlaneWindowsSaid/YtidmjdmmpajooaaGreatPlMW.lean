/-
  plane: boxes that are right; the reference's words for the same.
-/
import Derived.Test.YtidmjdmmpajooaaGreatPkW14W
import Derived.Test.YtidmjdmmpajooaaGreatPkW11W
set_option linter.unusedSimpArgs false
set_option linter.unusedVariables false
set_option maxRecDepth 100000
set_option maxHeartbeats 4000000
namespace Go.Proofs.YtidmjdmmpajooaaGreat
open Go.RowKit Dg
attribute [local go_sem ↓] Go.wp_at_zero Go.wp_at_succ
def bxE (o:Bxx):Int:=if rtB o.1=true then (if rtB o.2=true then (if o.2.1≤o.1.1∨o.2.2≤o.1.2 then 7 else 0) else 1) else 1
def fsE:List Bxx→Int
 | []=>0
 | o ::r=>if bxE o=0 then fsE r else bxE o
def bxsE (l:List Bxx):Int:=if 24 < l.length then 4 else fsE l
theorem bx_1 {p q:Pt} (h:¬ rtB p=true):bxE (p,q)=1:=if_neg h
theorem bx_2 {p q:Pt} (h:rtB p=true) (k:¬ rtB q=true):bxE (p,q)=1:=(if_pos h).trans (if_neg k)
theorem bx_3 {p q:Pt} (h:rtB p=true) (k:rtB q=true) (d:q.1≤p.1∨q.2≤p.2):bxE (p,q)=7:=(if_pos h).trans ((if_pos k).trans (if_pos d))
theorem bx_4 {p q:Pt} (h:rtB p=true) (k:rtB q=true) (d:¬ q.1≤p.1) (d':¬ q.2≤p.2):bxE (p,q)=0:=(if_pos h).trans ((if_pos k).trans (if_neg (fun x=>x.elim d d')))
theorem fs_at:∀(l:List Bxx) (k:Nat),k < l.length→(∀j,j < k→bxE (bxZ l j)=0)→bxE (bxZ l k)≠0→fsE l=bxE (bxZ l k)
 | [],k,h,_,_=>absurd h (Nat.not_lt_zero k)
 | o ::r,0,_,_,hn=>if_neg hn
 | o ::r,k + 1,h,hz,hn=>(if_pos (hz 0 (Nat.succ_pos k))).trans (fs_at r k (Nat.lt_of_succ_lt_succ h) (fun j hj=>hz (j + 1) (Nat.succ_lt_succ hj)) hn)
theorem fs_all:∀(l:List Bxx),(∀j,j < l.length→bxE (bxZ l j)=0)→fsE l=0
 | [],_=>rfl
 | o ::r,hz=>(if_pos (hz 0 (Nat.succ_pos _))).trans (fs_all r (fun j hj=>hz (j + 1) (Nat.succ_lt_succ hj)))
theorem bxs_at {l:List Bxx} {k:Nat} {e:Int} (h:¬ 24 < l.length) (hk:k < l.length) (hz:∀j,j < k→bxE (bxZ l j)=0) (he:e=bxE (bxZ l k)) (hn:e≠0):bxsE l=e:=by
 subst he
 exact (if_neg h).trans (fs_at l k hk hz hn)
theorem bxs_all {l:List Bxx} {k:Nat} (h:¬ 24 < l.length) (hk:¬ k < l.length) (hz:∀j,j < k→bxE (bxZ l j)=0):bxsE l=0:=(if_neg h).trans (fs_all l (fun j hj=>hz j (by omega)))
theorem fs_ok:∀{l:List Bxx},fsE l=0→∀o∈l,bxE o=0
 | [],_,o,ho=>by cases ho
 | x ::r,h,o,ho=>by
  have h:(if bxE x=0 then fsE r else bxE x)=0:=h
  split at h
  ·rename_i hx
   rcases List.mem_cons.1 ho with rfl|ho
   ·exact hx
   exact fs_ok h o ho
  rename_i hx;exact absurd h hx
theorem bx_ok {o:Bxx} (h:bxE o=0):WP 1048576 o.1∧WP 1048576 o.2:=by
 unfold bxE at h
 split at h
 ·rename_i h1
  split at h
  ·rename_i h2
   exact⟨jm h1,jm h2⟩
  cases h
 cases h
theorem bxZ_mem {l:List Bxx} {k:Nat} (h:k < l.length):bxZ l k∈l:=by
 unfold bxZ
 rw[List.getD_eq_getElem?_getD,List.getElem?_eq_getElem h]
 exact List.getElem_mem h
theorem bxs_ok {l:List Bxx} (h:bxsE l=0):l.length≤24∧∀o∈l,WP 1048576 o.1∧WP 1048576 o.2:=by
 unfold bxsE at h
 split at h
 ·cases h
 exact⟨by omega,fun o ho=>bx_ok (fs_ok h o ho)⟩
theorem r2_Right (p:Pt) (w:World):
  Calls Tryz.prog 62 #[.agg #[.int .i64 p.1,.int .i64 p.2]] w (fj w (.bool (rtB p))):=by
 have hs:=Below.refl w.heap.size w
 go_enter Tryz.func62,Tryz.ntmps62
 by_cases q1: -1048576≤p.1
 ·have Bq:(-1048576≤p.1)=True:=eq_true (by omega)
  by_cases q2:p.1≤1048576
  ·have Br:(p.1≤1048576)=True:=eq_true (by omega)
   by_cases q3: -1048576≤p.2
   ·have q3d:(-1048576≤p.2)=True:=eq_true (by omega)
    by_cases q4:p.2≤1048576
    ·have q4d:(p.2≤1048576)=True:=eq_true (by omega)
     try simp only[q4d]
     go_wp2
     refine bodyPost.abs ?_
     intro w1 hW
     have hG:Gr [] w w1:=by rw[hW];exact (Gr.refl _ _).alloc
     have Bh:=hs.size
     have Bi:Bx w1 (w.heap.size) 24 #[.int .i64 p.1,.int .i64 p.2]:=by rw[hW];exact (Bx.new0 _ _ _)
     replace hs:=hs.trans (hG.below0 hs.size)
     clear hW hG
     have Bg:=Bi.lt
     go_ret
     exact⟨(by rw[show rtB p=true from by unfold rtB;rw[decide_eq_true (show (-1048576≤p.1) by omega)];rw[decide_eq_true (show (p.1≤1048576) by omega)];rw[decide_eq_true (show (-1048576≤p.2) by omega)];rw[decide_eq_true (show (p.2≤1048576) by omega)];rfl];rfl),hs⟩
    have q4d:(p.2≤1048576)=False:=eq_false (by omega)
    try simp only[q4d]
    go_wp2
    refine bodyPost.abs ?_
    intro w1 hW
    have hG:Gr [] w w1:=by rw[hW];exact (Gr.refl _ _).alloc
    have Bh:=hs.size
    have Bi:Bx w1 (w.heap.size) 24 #[.int .i64 p.1,.int .i64 p.2]:=by rw[hW];exact (Bx.new0 _ _ _)
    replace hs:=hs.trans (hG.below0 hs.size)
    clear hW hG
    have Bg:=Bi.lt
    go_ret
    exact⟨(by rw[show rtB p=false from by unfold rtB;rw[decide_eq_true (show (-1048576≤p.1) by omega)];rw[decide_eq_true (show (p.1≤1048576) by omega)];rw[decide_eq_true (show (-1048576≤p.2) by omega)];rw[decide_eq_false (show ¬ (p.2≤1048576) by omega)];simp];rfl),hs⟩
   have q3d:(-1048576≤p.2)=False:=eq_false (by omega)
   go_wp2
   refine bodyPost.abs ?_
   intro w1 hW
   have hG:Gr [] w w1:=by rw[hW];exact (Gr.refl _ _).alloc
   have Bh:=hs.size
   have Bi:Bx w1 (w.heap.size) 24 #[.int .i64 p.1,.int .i64 p.2]:=by rw[hW];exact (Bx.new0 _ _ _)
   replace hs:=hs.trans (hG.below0 hs.size)
   clear hW hG
   have Bg:=Bi.lt
   go_ret
   exact⟨(by rw[show rtB p=false from by unfold rtB;rw[decide_eq_true (show (-1048576≤p.1) by omega)];rw[decide_eq_true (show (p.1≤1048576) by omega)];rw[decide_eq_false (show ¬ (-1048576≤p.2) by omega)];simp];rfl),hs⟩
  have Br:(p.1≤1048576)=False:=eq_false (by omega)
  go_wp2
  refine bodyPost.abs ?_
  intro w1 hW
  have hG:Gr [] w w1:=by rw[hW];exact (Gr.refl _ _).alloc
  have Bh:=hs.size
  have Bi:Bx w1 (w.heap.size) 24 #[.int .i64 p.1,.int .i64 p.2]:=by rw[hW];exact (Bx.new0 _ _ _)
  replace hs:=hs.trans (hG.below0 hs.size)
  clear hW hG
  have Bg:=Bi.lt
  go_ret
  exact⟨(by rw[show rtB p=false from by unfold rtB;rw[decide_eq_true (show (-1048576≤p.1) by omega)];rw[decide_eq_false (show ¬ (p.1≤1048576) by omega)];simp];rfl),hs⟩
 have Bq:(-1048576≤p.1)=False:=eq_false (by omega)
 go_wp2
 refine bodyPost.abs ?_
 intro w1 hW
 have hG:Gr [] w w1:=by rw[hW];exact (Gr.refl _ _).alloc
 have Bh:=hs.size
 have Bi:Bx w1 (w.heap.size) 24 #[.int .i64 p.1,.int .i64 p.2]:=by rw[hW];exact (Bx.new0 _ _ _)
 replace hs:=hs.trans (hG.below0 hs.size)
 clear hW hG
 have Bg:=Bi.lt
 go_ret
 exact⟨(by rw[show rtB p=false from by unfold rtB;rw[decide_eq_false (show ¬ (-1048576≤p.1) by omega)];simp];rfl),hs⟩
theorem pl_checkBox (p q:Pt) (w:World):
  Calls Tryz.prog 23 #[.agg #[.int .i64 p.1,.int .i64 p.2,.int .i64 q.1,.int .i64 q.2]] w (fj w (.int .i64 (bxE (p,q)))):=by
 have hs:=Below.refl w.heap.size w
 go_enter Tryz.func23,Tryz.ntmps23
 go_wp2_with fail
 refine Calls.abs ?_
 intro w1 hW
 have hG:Gr [] w w1:=by rw[hW];exact (Gr.refl _ _).alloc
 have Bh:=hs.size
 have B0:Bx w1 (w.heap.size) 26 #[.int .i64 p.1,.int .i64 p.2,.int .i64 q.1,.int .i64 q.2]:=by rw[hW];exact (Bx.new0 _ _ _)
 replace hs:=hs.trans (hG.below0 hs.size)
 clear hW hG
 have Bg:=B0.lt
 with_reducible refine (je3 p _).mono ?_
 rintro e w2 ⟨rfl,hb⟩
 revert B0;refine mS hs hb ?_;clear hs hb;intro hs B0
 obtain⟨b1,Bd⟩:∃zz:Bool,zz=rtB p:=⟨_,rfl⟩
 rw[←Bd]
 replace Bd:=ae Bd
 by_cases q2:rtB p=true
 ·obtain rfl:b1=true:=by rw[Bd.out];exact q2
  have Bc:=ae q2
  clear q2
  refine B0.k4l fun B2 B3 B4 B5 Lb=>?_
  go_wp2_with fail
  clear B2 B3 B4 B5 Lb
  with_reducible refine (je3 q _).mono ?_
  rintro e w3 ⟨rfl,hb⟩
  revert B0;refine mS hs hb ?_;clear hs hb;intro hs B0
  obtain⟨b3,Be⟩:∃zz:Bool,zz=rtB q:=⟨_,rfl⟩
  rw[←Be]
  replace Be:=ae Be
  by_cases q4:rtB q=true
  ·obtain rfl:b3=true:=by rw[Be.out];exact q4
   have Bf:=ae q4
   clear q4
   by_cases q5:q.1≤p.1
   ·have q5d:(q.1≤p.1)=True:=eq_true (by omega)
    refine B0.k4l fun B2 B3 B4 B5 Lb=>?_
    go_wp2
    clear B2 B3 B4 B5 Lb
    go_ret
    exact⟨(by rw[bx_3 Bc.out Bf.out (.inl (by omega))];rfl),hs⟩
   have q5d:(q.1≤p.1)=False:=eq_false (by omega)
   by_cases q6:q.2≤p.2
   ·have q6d:(q.2≤p.2)=True:=eq_true (by omega)
    refine B0.k4l fun B2 B3 B4 B5 Lb=>?_
    go_wp2
    clear B2 B3 B4 B5 Lb
    go_ret
    exact⟨(by rw[bx_3 Bc.out Bf.out (.inr (by omega))];rfl),hs⟩
   have q6d:(q.2≤p.2)=False:=eq_false (by omega)
   refine B0.k4l fun B2 B3 B4 B5 Lb=>?_
   go_wp2
   clear B2 B3 B4 B5 Lb
   go_ret
   exact⟨(by rw[bx_4 Bc.out Bf.out (by omega) (by omega)];rfl),hs⟩
  obtain rfl:b3=false:=by rw[Be.out];simpa using q4
  have Bf:=ae q4
  clear q4
  go_wp2
  go_ret
  exact⟨(by rw[bx_2 Bc.out Bf.out];rfl),hs⟩
 obtain rfl:b1=false:=by rw[Bd.out];simpa using q2
 have Bc:=ae q2
 clear q2
 go_wp2
 go_ret
 exact⟨(by rw[bx_1 Bc.out];rfl),hs⟩
theorem r2_ValidBox (p q:Pt) (w:World):
  Calls Tryz.prog 33 #[.agg #[.int .i64 p.1,.int .i64 p.2,.int .i64 q.1,.int .i64 q.2]] w (fj w (.int .i64 (bxE (p,q)))):=by
 have hs:=Below.refl w.heap.size w
 go_enter Tryz.func33,Tryz.ntmps33
 go_wp2_with fail
 refine Calls.abs ?_
 intro w1 hW
 have hG:Gr [] w w1:=by rw[hW];exact (Gr.refl _ _).alloc
 have Bh:=hs.size
 have B0:Bx w1 (w.heap.size) 26 #[.int .i64 p.1,.int .i64 p.2,.int .i64 q.1,.int .i64 q.2]:=by rw[hW];exact (Bx.new0 _ _ _)
 replace hs:=hs.trans (hG.below0 hs.size)
 clear hW hG
 have Bg:=B0.lt
 with_reducible refine (r2_Right p _).mono ?_
 rintro e w2 ⟨rfl,hb⟩
 revert B0;refine mS hs hb ?_;clear hs hb;intro hs B0
 obtain⟨b1,Bd⟩:∃zz:Bool,zz=rtB p:=⟨_,rfl⟩
 rw[←Bd]
 replace Bd:=ae Bd
 by_cases q2:rtB p=true
 ·obtain rfl:b1=true:=by rw[Bd.out];exact q2
  have Bc:=ae q2
  clear q2
  refine B0.k4l fun B2 B3 B4 B5 Lb=>?_
  go_wp2_with fail
  clear B2 B3 B4 B5 Lb
  with_reducible refine (r2_Right q _).mono ?_
  rintro e w3 ⟨rfl,hb⟩
  revert B0;refine mS hs hb ?_;clear hs hb;intro hs B0
  obtain⟨b3,Be⟩:∃zz:Bool,zz=rtB q:=⟨_,rfl⟩
  rw[←Be]
  replace Be:=ae Be
  by_cases q4:rtB q=true
  ·obtain rfl:b3=true:=by rw[Be.out];exact q4
   have Bf:=ae q4
   clear q4
   by_cases q5:q.1≤p.1
   ·have q5d:(q.1≤p.1)=True:=eq_true (by omega)
    refine B0.k4l fun B2 B3 B4 B5 Lb=>?_
    go_wp2
    clear B2 B3 B4 B5 Lb
    go_ret
    exact⟨(by rw[bx_3 Bc.out Bf.out (.inl (by omega))];rfl),hs⟩
   have q5d:(q.1≤p.1)=False:=eq_false (by omega)
   by_cases q6:q.2≤p.2
   ·have q6d:(q.2≤p.2)=True:=eq_true (by omega)
    refine B0.k4l fun B2 B3 B4 B5 Lb=>?_
    go_wp2
    clear B2 B3 B4 B5 Lb
    go_ret
    exact⟨(by rw[bx_3 Bc.out Bf.out (.inr (by omega))];rfl),hs⟩
   have q6d:(q.2≤p.2)=False:=eq_false (by omega)
   refine B0.k4l fun B2 B3 B4 B5 Lb=>?_
   go_wp2
   clear B2 B3 B4 B5 Lb
   go_ret
   exact⟨(by rw[bx_4 Bc.out Bf.out (by omega) (by omega)];rfl),hs⟩
  obtain rfl:b3=false:=by rw[Be.out];simpa using q4
  have Bf:=ae q4
  clear q4
  go_wp2
  go_ret
  exact⟨(by rw[bx_2 Bc.out Bf.out];rfl),hs⟩
 obtain rfl:b1=false:=by rw[Bd.out];simpa using q2
 have Bc:=ae q2
 clear q2
 go_wp2
 go_ret
 exact⟨(by rw[bx_1 Bc.out];rfl),hs⟩
theorem pl_checkBoxes (v:Value) (l:List Bxx) (w:World) (hl:Bxs w v l):
  Calls Tryz.prog 22 #[v] w (fj w (.int .i64 (bxsE l))):=by
 obtain⟨al,cl,rfl, -, -, -⟩:=hl.slice
 have hs:=Below.refl w.heap.size w
 have HO:=ae hl
 clear hl
 go_enter Tryz.func22,Tryz.ntmps22
 by_cases q1:24 < l.length
 ·have Bq:((24:Int) < (l.length:Int))=True:=eq_true (by omega)
  go_wp2
  go_ret
  exact⟨(by rw[show bxsE l=4 from if_pos (by omega)];rfl),hs⟩
 have Bq:((24:Int) < (l.length:Int))=False:=eq_false (by omega)
 go_wp2
 go_loopw [11] (fun s11 wq=>∃k:Nat,k≤l.length∧s11=.int .i64 k∧Below w.heap.size w wq∧(∀j,j < k→bxE (bxZ l j)=0)) (fun s11 _=>l.length - (intOf s11).toNat)
 case atStart=>exact⟨0,Nat.zero_le _,rfl,hs,(fun j h=>absurd h (Nat.not_lt_zero j))⟩
 case round=>
  clear hs
  obtain⟨k,k_le,rfl,hs,HZ⟩:=hrel
  replace HZ:=ae HZ
  by_cases q2:k < l.length
  ·have Br:((k:Int) < (l.length:Int))=True:=eq_true (by omega)
   obtain⟨ob,oo,oc,Bp, -, -⟩:=ep HO.out (by omega)
   obtain⟨rfl,rfl⟩:=yk Bp
   clear Bp
   obtain⟨Bj,Bk,Bl,Bm,le3⟩:=jf0 (be.mono IE.kept HO.out hs) (show k < l.length by omega)
   obtain⟨Ba,B6⟩:∃z:Pt,z=(bxZ l k).1:=⟨_,rfl⟩
   obtain⟨Bb,B7⟩:∃z:Pt,z=(bxZ l k).2:=⟨_,rfl⟩
   rw[show (l.getD k ((0,0),(0,0))).1.1=Ba.1 from by rw[B6];rfl] at Bj
   rw[show (l.getD k ((0,0),(0,0))).1.2=Ba.2 from by rw[B6];rfl] at Bk
   rw[show (l.getD k ((0,0),(0,0))).2.1=Bb.1 from by rw[B7];rfl] at Bl
   rw[show (l.getD k ((0,0),(0,0))).2.2=Bb.2 from by rw[B7];rfl] at Bm
   replace B6:=ae B6
   replace B7:=ae B7
   go_wp2_with fail
   clear le3 Bj Bk Bl Bm
   refine Calls.abs ?_
   intro Bo hW
   have hG:Gr [] wr Bo:=by rw[hW];exact (Gr.refl _ _).alloc
   have sz_w21:=hs.size
   have B0:Bx Bo (wr.heap.size) 26 #[.int .i64 Ba.1,.int .i64 Ba.2,.int .i64 Bb.1,.int .i64 Bb.2]:=by rw[hW];exact (Bx.new0 _ _ _)
   replace hs:=hs.trans (hG.below0 hs.size)
   clear hW hG
   have hz_w21:=B0.lt
   with_reducible refine (pl_checkBox Ba Bb _).mono ?_
   rintro e w22 ⟨rfl,hb⟩
   revert B0;refine mS hs hb ?_;clear hs hb;intro hs B0
   obtain⟨B9,B8⟩:∃s:Int,s=bxE (Ba,Bb):=⟨_,rfl⟩
   rw[←B8]
   replace B8:=ae B8
   by_cases q5:B9=0
   ·have q5b:(B9 == 0)=true:=beq_iff_eq.2 (by omega)
    have q5n:(B9 != 0)=false:=bne_eq_false_iff_eq.2 (by omega)
    have Bn:=ae q5
    clear q5
    go_wp2
    go_roundw
    case rel=>exact⟨k + 1,by omega,by go_num,hs,(fun j h=>(Nat.lt_or_eq_of_le (Nat.le_of_lt_succ h)).elim (fun e=>HZ.out j e) (fun e=>by rw[e];exact (show B9=bxE (bxZ l k) from by rw[B8.out,show bxZ l k=(Ba,Bb) from by rw[B6.out,B7.out]]).symm.trans Bn.out))⟩
    all_goals first|(simp[intOf];done)|(simp[intOf];omega)
   have q5b:(B9 == 0)=false:=beq_eq_false_iff_ne.2 (by omega)
   have q5n:(B9 != 0)=true:=bne_iff_ne.2 (by omega)
   have Bn:=ae q5
   clear q5
   go_wp2
   go_ret
   exact⟨(by rw[bxs_at (by omega) (by omega) HZ.out (show B9=bxE (bxZ l k) from by rw[B8.out,show bxZ l k=(Ba,Bb) from by rw[B6.out,B7.out]]) Bn.out];rfl),hs⟩
  have Br:((k:Int) < (l.length:Int))=False:=eq_false (by omega)
  go_wp2
  go_ret
  exact⟨(by rw[bxs_all (by omega) (by omega) HZ.out];rfl),hs⟩
theorem r2_ValidBoxes (v:Value) (l:List Bxx) (w:World) (hl:Bxs w v l):
  Calls Tryz.prog 32 #[v] w (fj w (.int .i64 (bxsE l))):=by
 obtain⟨al,cl,rfl, -, -, -⟩:=hl.slice
 have hs:=Below.refl w.heap.size w
 have HO:=ae hl
 clear hl
 go_enter Tryz.func32,Tryz.ntmps32
 by_cases q1:24 < l.length
 ·have Bq:((24:Int) < (l.length:Int))=True:=eq_true (by omega)
  go_wp2
  go_ret
  exact⟨(by rw[show bxsE l=4 from if_pos (by omega)];rfl),hs⟩
 have Bq:((24:Int) < (l.length:Int))=False:=eq_false (by omega)
 go_wp2
 go_loopw [3] (fun s3 wq=>∃k:Nat,k≤l.length∧s3=.int .i64 k∧Below w.heap.size w wq∧(∀j,j < k→bxE (bxZ l j)=0)) (fun s3 _=>l.length - (intOf s3).toNat)
 case atStart=>exact⟨0,Nat.zero_le _,rfl,hs,(fun j h=>absurd h (Nat.not_lt_zero j))⟩
 case round=>
  clear hs
  obtain⟨k,k_le,rfl,hs,HZ⟩:=hrel
  replace HZ:=ae HZ
  by_cases q2:k < l.length
  ·have Br:((k:Int) < (l.length:Int))=True:=eq_true (by omega)
   obtain⟨ob,oo,oc,Bp, -, -⟩:=ep HO.out (by omega)
   obtain⟨rfl,rfl⟩:=yk Bp
   clear Bp
   obtain⟨Bj,Bk,Bl,Bm,le3⟩:=jf0 (be.mono IE.kept HO.out hs) (show k < l.length by omega)
   obtain⟨Ba,B6⟩:∃z:Pt,z=(bxZ l k).1:=⟨_,rfl⟩
   obtain⟨Bb,B7⟩:∃z:Pt,z=(bxZ l k).2:=⟨_,rfl⟩
   rw[show (l.getD k ((0,0),(0,0))).1.1=Ba.1 from by rw[B6];rfl] at Bj
   rw[show (l.getD k ((0,0),(0,0))).1.2=Ba.2 from by rw[B6];rfl] at Bk
   rw[show (l.getD k ((0,0),(0,0))).2.1=Bb.1 from by rw[B7];rfl] at Bl
   rw[show (l.getD k ((0,0),(0,0))).2.2=Bb.2 from by rw[B7];rfl] at Bm
   replace B6:=ae B6
   replace B7:=ae B7
   go_wp2_with fail
   clear le3 Bj Bk Bl Bm
   with_reducible refine (r2_ValidBox Ba Bb _).mono ?_
   rintro e Bo ⟨rfl,hb⟩
   replace hs:=ar hs hb
   clear hb
   obtain⟨B9,B8⟩:∃s:Int,s=bxE (Ba,Bb):=⟨_,rfl⟩
   rw[←B8]
   replace B8:=ae B8
   by_cases q5:B9=0
   ·have q5b:(B9 == 0)=true:=beq_iff_eq.2 (by omega)
    have q5n:(B9 != 0)=false:=bne_eq_false_iff_eq.2 (by omega)
    have Bn:=ae q5
    clear q5
    go_wp2
    go_roundw
    case rel=>exact⟨k + 1,by omega,by go_num,hs,(fun j h=>(Nat.lt_or_eq_of_le (Nat.le_of_lt_succ h)).elim (fun e=>HZ.out j e) (fun e=>by rw[e];exact (show B9=bxE (bxZ l k) from by rw[B8.out,show bxZ l k=(Ba,Bb) from by rw[B6.out,B7.out]]).symm.trans Bn.out))⟩
    all_goals first|(simp[intOf];done)|(simp[intOf];omega)
   have q5b:(B9 == 0)=false:=beq_eq_false_iff_ne.2 (by omega)
   have q5n:(B9 != 0)=true:=bne_iff_ne.2 (by omega)
   have Bn:=ae q5
   clear q5
   go_wp2
   go_ret
   exact⟨(by rw[bxs_at (by omega) (by omega) HZ.out (show B9=bxE (bxZ l k) from by rw[B8.out,show bxZ l k=(Ba,Bb) from by rw[B6.out,B7.out]]) Bn.out];rfl),hs⟩
  have Br:((k:Int) < (l.length:Int))=False:=eq_false (by omega)
  go_wp2
  go_ret
  exact⟨(by rw[bxs_all (by omega) (by omega) HZ.out];rfl),hs⟩
end Go.Proofs.YtidmjdmmpajooaaGreat
