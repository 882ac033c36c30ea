/-
  plane: Check: the error of a polygon.
-/
import Derived.Test.YtidmjdmmpajooaaGreatPlBN
set_option linter.unusedSimpArgs false
set_option linter.unusedVariables false
set_option maxRecDepth 100000
set_option maxHeartbeats 16000000
namespace Go.Proofs.YtidmjdmmpajooaaGreat
open Go.RowKit Dg
attribute [local go_sem ↓] Go.wp_at_zero Go.wp_at_succ
attribute [local go_sem] Oper.semAt_some
theorem tmod_back (k n:Nat) (h:0 < n):Int.tmod ((k:Int) + (n:Int) - 1) (n:Int)=((k + n - 1) % n:Nat):=by
 rw[Int.tmod_eq_emod_of_nonneg (by omega),show (k:Int) + (n:Int) - 1=((k + n - 1:Nat):Int) by omega];simp
theorem chk_short {l:List Pt} (h:l.length < 3):fl l=4:=by unfold fl;rw[if_pos h]
theorem chk_long {l:List Pt} (h:¬ l.length < 3) (h2:16 < l.length):fl l=4:=by unfold fl;rw[if_neg h,if_pos h2]
theorem chk_right {l:List Pt} (h:¬ l.length < 3) (h2:¬ 16 < l.length) {k:Nat} (hk:k < l.length) (hx:rtB (ptZ l k)=false):fl l=1:=by
 unfold fl
 rw[if_neg h,if_neg h2,if_neg (fun ha=>by rw[List.all_eq_true.1 ha _ (List.mem_of_getElem? (jb0 hk))] at hx;cases hx)]
theorem chk_bad {l:List Pt} (h:¬ l.length < 3) (h2:¬ 16 < l.length) (ha:l.all rtB=true) {k:Nat} (hk:k < l.length) (hx:uj l k=true):fl l=20:=by
 unfold fl
 rw[if_neg h,if_neg h2,if_pos ha,if_pos (List.any_eq_true.2 ⟨k,List.mem_range.2 hk,hx⟩)]
theorem chk_good {l:List Pt} (h:¬ l.length < 3) (h2:¬ 16 < l.length) (ha:l.all rtB=true) (hx:∀j,j < l.length→uj l j=false):fl l=0:=by
 unfold fl
 rw[if_neg h,if_neg h2,if_pos ha,if_neg (fun hc=>by
  obtain⟨j,hj,hb⟩:=List.any_eq_true.1 hc
  rw[hx j (List.mem_range.1 hj)] at hb;cases hb)]
theorem all_take {l:List Pt} {k:Nat} (hk:k < l.length) (h:(l.take k).all rtB=true) (hx:rtB (ptZ l k)=true):(l.take (k + 1)).all rtB=true:=by
 rw[List.take_add_one,jb0 hk,List.all_append,h]
 simp[hx]
theorem bad_fold {l:List Pt} {k:Nat} (h:qm l k=true):uj l k=true:=by unfold uj;rw[h];rfl
theorem ve {l:List Pt} {k m:Nat} (hm:m < l.length) (h:oz l k m=true):uj l k=true:=by
 unfold uj
 rw[List.any_eq_true.2 ⟨m,List.mem_range.2 hm,h⟩];simp
theorem bad_no {l:List Pt} {k:Nat} (h:qm l k=false) (hp:∀m,m < l.length→oz l k m=false):uj l k=false:=by
 unfold uj
 rw[h,Bool.false_or,List.any_eq_false.2 (fun m hm=>by rw[hp m (List.mem_range.1 hm)];simp)]
theorem fold_tt {l:List Pt} {k:Nat} {b p q:Pt} (hb:ptZ l ((k + l.length - 1) % l.length)=b) (hp:p=ptZ l k) (hq:q=nxZ l k) (h1:crZ (mnZ b p) (mnZ q p)=0) (h2:0≤dtZ (mnZ b p) (mnZ q p)):qm l k=true:=by
 subst hb hp hq
 unfold nxZ at h1 h2
 unfold qm
 rw[decide_eq_true h1,decide_eq_true h2];rfl
theorem fold_f1 {l:List Pt} {k:Nat} {b p q:Pt} (hb:ptZ l ((k + l.length - 1) % l.length)=b) (hp:p=ptZ l k) (hq:q=nxZ l k) (h1:¬ crZ (mnZ b p) (mnZ q p)=0):qm l k=false:=by
 subst hb hp hq
 unfold nxZ at h1
 unfold qm
 rw[decide_eq_false h1];rfl
theorem fold_f2 {l:List Pt} {k:Nat} {b p q:Pt} (hb:ptZ l ((k + l.length - 1) % l.length)=b) (hp:p=ptZ l k) (hq:q=nxZ l k) (h2:¬ 0≤dtZ (mnZ b p) (mnZ q p)):qm l k=false:=by
 subst hb hp hq
 unfold nxZ at h2
 unfold qm
 rw[decide_eq_false h2,Bool.and_false]
theorem ja8 {l:List Pt} {k m:Nat} {p q c d:Pt} (hp:p=ptZ l k) (hq:q=nxZ l k) (hc:c=ptZ l m) (hd:d=nxZ l m) (h1:k + 1 < m) (h2:¬ (k=0∧m=l.length - 1)) (h3:meZ p q c d=true):oz l k m=true:=by
 subst hp hq hc hd
 unfold nxZ at h3
 unfold oz
 have e:(decide (k=0) && decide (m=l.length - 1))=false:=by
  rw[Bool.eq_false_iff];intro h;rw[Bool.and_eq_true,decide_eq_true_eq,decide_eq_true_eq] at h;exact h2 h
 rw[decide_eq_true h1,e,h3];rfl
theorem pair_f1 {l:List Pt} {k m:Nat} (h1:¬ k + 1 < m):oz l k m=false:=by unfold oz;rw[decide_eq_false h1];rfl
theorem pair_f2 {l:List Pt} {k m:Nat} (h1:k=0) (h2:m=l.length - 1):oz l k m=false:=by unfold oz;rw[decide_eq_true h1,decide_eq_true h2];simp
theorem ja6 {l:List Pt} {k m:Nat} {p q c d:Pt} (hp:p=ptZ l k) (hq:q=nxZ l k) (hc:c=ptZ l m) (hd:d=nxZ l m) (h3:¬ meZ p q c d=true):oz l k m=false:=by
 subst hp hq hc hd
 unfold nxZ at h3
 unfold oz
 rw[Bool.eq_false_iff.2 h3];simp
theorem upto {p:Nat→Prop} {k:Nat} (h:∀j,j < k→p j) (hk:p k):∀j,j < k + 1→p j:=fun j hj=>by
 by_cases e:j=k
 ·rw[e];exact hk
 exact h j (by omega)
theorem je1 (v:Value) (l:List Pt) (w:World) (hl:Pts w v l) (hn:l.length < 3):
  Calls Tryz.prog 8 #[v] w (fj w (.int .i64 (fl l))):=by
 obtain⟨ao,C0,rfl,hc1,hc2,hc3⟩:=hl.slice
 have hs:=Below.refl w.heap.size w
 have HL:=ae hl
 clear hl
 have hE:=ae (chk_short hn)
 refine (callsIn_wide (n:=2)).1 (callsIn_of_wp_marks Tryz.func8 rfl trivial ?_)
 simp only[Tryz.ntmps8,List.size_toArray,List.length_cons,List.length_nil,Nat.reduceAdd,Nat.reduceSub,Array.replicate_succ,
   Array.replicate_zero,List.push_toArray,List.append_toArray,List.nil_append,List.cons_append]
 refine wpIn_wide.2 ?_
 have q1:l.length < 3:=by omega
 have q1d:((l.length:Int) < 3)=True:=eq_true (by omega)
 go_wp2
 generalize hW_:((w.alloc (.cells #[.slice ao l.length C0] 32)).alloc (.cells #[.int .i64 4] 28))=w1
 have hW:=hW_.symm
 clear hW_
 have hG:Gr [] w w1:=by rw[hW];exact (Gr.refl _ _).alloc.alloc
 have Eb:=hs.size
 have B3:Bx w1 (w.heap.size) 32 #[.slice ao l.length C0]:=by rw[hW];exact ((Bx.new0 _ _ _).alloc _)
 have Blk:Bx w1 (w.heap.size + 1) 28 #[.int .i64 4]:=by rw[hW];exact (Bx.new0 _ _ _)
 replace hs:=hs.trans (hG.below0 hs.size)
 clear hW hG
 have Ea:=Blk.lt
 have D2:=Blk.at 0 rfl
 refine⟨_,by simp[results,Tryz.results8,go_sem,D2];rfl,⟨by rw[hE.out],hs⟩⟩
theorem pl_Check_long (v:Value) (l:List Pt) (w:World) (hl:Pts w v l) (hn:¬ l.length < 3) (hn2:16 < l.length):
  Calls Tryz.prog 8 #[v] w (fj w (.int .i64 (fl l))):=by
 obtain⟨ao,C0,rfl,hc1,hc2,hc3⟩:=hl.slice
 have hs:=Below.refl w.heap.size w
 have HL:=ae hl
 clear hl
 have hE:=ae (chk_long hn hn2)
 refine (callsIn_wide (n:=2)).1 (callsIn_of_wp_marks Tryz.func8 rfl trivial ?_)
 simp only[Tryz.ntmps8,List.size_toArray,List.length_cons,List.length_nil,Nat.reduceAdd,Nat.reduceSub,Array.replicate_succ,
   Array.replicate_zero,List.push_toArray,List.append_toArray,List.nil_append,List.cons_append]
 refine wpIn_wide.2 ?_
 have q1:¬ (l.length < 3):=by omega
 have q1d:((l.length:Int) < 3)=False:=eq_false (by omega)
 have q2:16 < l.length:=by omega
 have q2d:((16:Int) < (l.length:Int))=True:=eq_true (by omega)
 go_wp2
 generalize hW_:((w.alloc (.cells #[.slice ao l.length C0] 32)).alloc (.cells #[.int .i64 4] 28))=w1
 have hW:=hW_.symm
 clear hW_
 have hG:Gr [] w w1:=by rw[hW];exact (Gr.refl _ _).alloc.alloc
 have Eb:=hs.size
 have B3:Bx w1 (w.heap.size) 32 #[.slice ao l.length C0]:=by rw[hW];exact ((Bx.new0 _ _ _).alloc _)
 have Blk:Bx w1 (w.heap.size + 1) 28 #[.int .i64 4]:=by rw[hW];exact (Bx.new0 _ _ _)
 replace hs:=hs.trans (hG.below0 hs.size)
 clear hW hG
 have Ea:=Blk.lt
 have D2:=Blk.at 0 rfl
 refine⟨_,by simp[results,Tryz.results8,go_sem,D2];rfl,⟨by rw[hE.out],hs⟩⟩
theorem pl_Check_main (v:Value) (l:List Pt) (w:World) (hl:Pts w v l) (hn:¬ l.length < 3) (hn2:¬ 16 < l.length):
  Calls Tryz.prog 8 #[v] w (fj w (.int .i64 (fl l))):=by
 obtain⟨ao,C0,rfl,hc1,hc2,hc3⟩:=hl.slice
 have hs:=Below.refl w.heap.size w
 have HL:=ae hl
 clear hl
 obtain⟨bb,oo,cc,hv, -, -⟩:=ep HL.out (by omega)
 injection hv with hv _ hv3
 subst hv hv3
 have hm_:0 < l.length:=by omega
 refine (callsIn_wide (n:=2)).1 (callsIn_of_wp_marks Tryz.func8 rfl trivial ?_)
 simp only[Tryz.ntmps8,List.size_toArray,List.length_cons,List.length_nil,Nat.reduceAdd,Nat.reduceSub,Array.replicate_succ,
   Array.replicate_zero,List.push_toArray,List.append_toArray,List.nil_append,List.cons_append]
 refine wpIn_wide.2 ?_
 have q1:¬ (l.length < 3):=by omega
 have q1d:((l.length:Int) < 3)=False:=eq_false (by omega)
 have q2:¬ (16 < l.length):=by omega
 have q2d:((16:Int) < (l.length:Int))=False:=eq_false (by omega)
 go_wp2
 refine Code.abs ?_
 intro w1 hW
 have hG:Gr [] w w1:=by rw[hW];exact (Gr.refl _ _).alloc.alloc
 have Eb:=hs.size
 have B3:Bx w1 (w.heap.size) 32 #[.slice (some ⟨bb,oo,none⟩) l.length C0]:=by rw[hW];exact ((Bx.new0 _ _ _).alloc _)
 have Blk:Bx w1 (w.heap.size + 1) 28 #[.int .i64 0]:=by rw[hW];exact (Bx.new0 _ _ _)
 replace hs:=hs.trans (hG.below0 hs.size)
 clear hW hG
 have Ea:=Blk.lt
 go_loopw [22] (fun s22 wq=>∃j0:Nat,j0≤l.length∧s22=.int .i64 j0∧Below w.heap.size w wq∧Bx wq (w.heap.size) 32 #[.slice (some ⟨bb,oo,none⟩) l.length C0]∧Bx wq (w.heap.size + 1) 28 #[.int .i64 0]∧((l.take j0).all rtB=true)) (fun s22 _=>l.length - (intOf s22).toNat)
 case atStart=>exact⟨0,Nat.zero_le _,rfl,hs,B3,Blk,by rw[List.take_zero];rfl⟩
 case round=>
  clear B3 Blk hs
  obtain⟨j0,k_le,rfl,hs,B3,Blk,HA⟩:=hrel
  replace HA:=ae HA
  by_cases q3:j0 < l.length
  ·have q3d:((j0:Int) < (l.length:Int))=True:=eq_true (by omega)
   obtain⟨Ee,Ef,le4⟩:=ij (HL.out.mono IP.kept hs) (show j0 < l.length by omega)
   obtain⟨D6,D0⟩:∃z:Int,z=(ptZ l j0).1:=⟨_,rfl⟩
   rw[←D0] at Ee
   replace D0:=ae D0.symm
   obtain⟨D7,D1⟩:∃z:Int,z=(ptZ l j0).2:=⟨_,rfl⟩
   rw[←D1] at Ef
   replace D1:=ae D1.symm
   go_wp2_with fail
   clear le4 Ee Ef
   refine Calls.abs ?_
   intro Bz hW
   have hG:Gr [] wr Bz:=by rw[hW];exact (Gr.refl _ _).alloc
   have Eo:=hs.size
   have Ei:=B3.lt
   have Eh:=Blk.lt
   have Dr:Bx Bz (wr.heap.size) 24 #[.int .i64 D6,.int .i64 D7]:=by rw[hW];exact (Bx.new0 _ _ _)
   replace hs:=hs.trans (hG.below0 hs.size)
   revert Blk;revert B3;refine g0 hG ?_;intro B3 Blk
   clear hW hG
   have Eg:=Dr.lt
   with_reducible refine (je3 (D6,D7) _).mono ?_
   rintro e C1 ⟨rfl,hb⟩
   revert Dr B3 Blk;refine mS hs hb ?_;clear hs hb;intro hs Dr B3 Blk
   obtain⟨b5,Dt⟩:∃zz:Bool,zz=rtB (D6,D7):=⟨_,rfl⟩
   rw[←Dt]
   replace Dt:=ae Dt
   by_cases q6:rtB (D6,D7)=true
   ·obtain rfl:b5=true:=by rw[Dt.out];exact q6
    have q6H:=ae q6
    clear q6
    have AX7:IntKind.i64.wrap ((j0:Int) + 1)=(j0:Int) + 1:=IntWalk.i64_in _ (by omega)
    go_wp2
    go_roundw
    case rel=>exact⟨j0 + 1,by omega,by go_num,hs,B3,Blk,all_take (by omega) HA.out (by rw[show ptZ l j0=(D6,D7) from Prod.ext D0.out D1.out];exact q6H.out)⟩
    all_goals first|(simp[intOf];done)|(simp[intOf];omega)
   obtain rfl:b5=false:=by rw[Dt.out];simpa using q6
   have q6H:=ae q6
   clear q6
   refine Blk.k1fl fun C9 fk Lk=>?_
   go_wp2
   clear C9 fk Lk
   generalize hW_:(C1.setCell ⟨w.heap.size + 1,0,none⟩ (.int .i64 1))=w24
   have hW:=hW_.symm
   clear hW_
   have hG:Gr [w.heap.size + 1] C1 w24:=by rw[hW];exact (Gr.refl _ _).set
   have Cf:=hs.size
   have lk:=Blk.lt
   have C4:Bx w24 (w.heap.size + 1) 28 #[.int .i64 1]:=by rw[hW];exact (Bx.set Blk 0 _ rfl)
   replace hs:=hs.trans (hG.d1 hs.size)
   replace B3:=hG.b1 B3
   replace Dr:=hG.b1 Dr
   replace Blk:=C4
   clear C4
   clear hW hG Cf lk
   have D2:=Blk.at 0 rfl
   refine⟨_,by simp[results,Tryz.results8,go_sem,D2];rfl,⟨by rw[chk_right hn hn2 (k:=j0) (by omega) (by rw[show ptZ l j0=(D6,D7) from Prod.ext D0.out D1.out];have h:=q6H.out;simpa using h)],hs⟩⟩
  have q3d:((j0:Int) < (l.length:Int))=False:=eq_false (by omega)
  refine B3.k1l fun Dh Lp=>?_
  go_wp2_with fail
  clear Dh Lp
  refine Calls.abs ?_
  intro Bz hW
  have hG:Gr [] wr Bz:=by rw[hW];exact (Gr.refl _ _).alloc
  have Eo:=hs.size
  have Ei:=B3.lt
  have Eh:=Blk.lt
  have B4:Bx Bz (wr.heap.size) 3 #[.int .i64 ((l.length:Int))]:=by rw[hW];exact (Bx.new0 _ _ _)
  replace hs:=hs.trans (hG.below0 hs.size)
  revert Blk;revert B3;refine g0 hG ?_;intro B3 Blk
  clear hW hG
  have Eg:=B4.lt
  have K6:=B3.lt
  have K4:=Blk.lt
  have K5:=B4.lt
  with_reducible refine (ph _ _ _ _).mono ?_
  rintro e C1 ⟨rfl,B2,hb⟩
  revert B4 B3 Blk;refine mS hs hb ?_;clear hs hb;intro hs B4 B3 Blk
  have Ds:=ae (show l.all rtB=true from by have h:=HA.out;rwa [show j0=l.length from by omega,List.take_length] at h)
  have HW:=ae (show ∀p∈l,WP 1048576 p from fun p hp=>jm (List.all_eq_true.1 Ds.out p hp))
  go_wp2_with fail
  have nr_p_0:=B3.lt
  have nr_k_0:=Blk.lt
  have nr_n_0:=B4.lt
  have K0:=B2.lt
  have nz_0:=hs.size
  refine edgesR (Bz.heap.size) _ l w (fun k W=>Bx W (w.heap.size) 32 #[.slice (some ⟨bb,oo,none⟩) l.length C0]∧Bx W (w.heap.size + 1) 28 #[.int .i64 0]∧Bx W (wr.heap.size) 3 #[.int .i64 ((l.length:Int))]∧(∀j,j < k→uj l j=false)) (fun c W=>c=.ret∧Bx W (w.heap.size + 1) 28 #[.int .i64 20]∧fl l=20) rfl rfl HL.out (by omega) hs B2 (fun _=>(.and (.bx _) (.and (.bx _) (.and (.bx _) (.prop _ _))))) (fun c=>(.and (.prop _ _) (.and (.bx _) (.prop _ _)))) ⟨B3,Blk,B4,(fun j hj=>absurd hj (by omega))⟩ ?hbody0 ?hend0 ?hret0
  case hbody0=>
   clear hs B2 B3 Blk B4
   intro Cd Cg k W0 RR0 hlpa0 hlpb0 hk0 hn0 e1 hs B2 hI hD Dk
   replace Dk:=ae Dk
   replace e1:AtB Cg (.loop (Cd .ready none)) W0:=⟨e1⟩
   replace hD:AtB C1.heap.size (.deferred (some [])) W0:=⟨hD⟩
   obtain⟨B3,Blk,B4,HB⟩:=hI
   skip
   have B9:=Kp.refl (C1.heap.size + 2) W0
   obtain⟨p,Hp⟩:∃z:Pt,z=ptZ l k:=⟨_,rfl⟩
   obtain⟨q,Hq⟩:∃z:Pt,z=nxZ l k:=⟨_,rfl⟩
   rw[←Hp,←Hq]
   replace Hp:=ae Hp
   replace Hq:=ae Hq
   have Bp:WP 1048576 p:=by rw[Hp.out];exact WP.pt (by decide) HW.out _
   have Bq:WP 1048576 q:=by rw[Hq.out];exact WP.pt (by decide) HW.out _
   gi_wp2
   repeat ((with_reducible refine And.intro ?_ ?_);exact trivial;gi_wp2)
   generalize hW_:((W0.alloc (.cells #[.int .i64 ((k:Int))] 3)).alloc (.cells #[.int .i64 p.1,.int .i64 p.2,.int .i64 q.1,.int .i64 q.2] 69))=w24
   have hW:=hW_.symm
   clear hW_
   have hG:Gr [] W0 w24:=by rw[hW];exact (Gr.refl _ _).alloc.alloc
   have sz_w24:=hs.size
   have np_w24:=B3.lt
   have nk_w24:=Blk.lt
   have nn_w24:=B4.lt
   have K1:=B2.lt
   have B6:Bx w24 (W0.heap.size) 3 #[.int .i64 ((k:Int))]:=by rw[hW];exact ((Bx.new0 _ _ _).alloc _)
   have B5:Bx w24 (W0.heap.size + 1) 69 #[.int .i64 p.1,.int .i64 p.2,.int .i64 q.1,.int .i64 q.2]:=by rw[hW];exact (Bx.new0 _ _ _)
   replace hs:=hs.trans (hG.below0 hs.size)
   replace e1:=atB _ _ _ e1 (hG.below0 (ag _))
   replace hD:=atB _ _ _ hD (hG.below0 (ag _))
   replace B9:=kpJ _ _ _ B9 (hG.below0 (ag _))
   revert B2 B3 Blk B4;refine g0 hG ?_;intro B2 B3 Blk B4
   clear hW hG
   have hz_w24:=B5.lt
   refine⟨e1.h,?_⟩
   obtain⟨By,Bj⟩:∃x,x=w24.putObj Cg (.loop (Cd .busy none)):=⟨_,rfl⟩
   rw[←Bj]
   have Dv:=hs.size
   replace hs:Below w.heap.size w By:=by rw[Bj];exact hs.trans (belowK_b (ag _) _ Cg _ _ (by omega) e1.h rfl rfl)
   replace B3:Bx By (w.heap.size) 32 #[.slice (some ⟨bb,oo,none⟩) l.length C0]:=by rw[Bj];exact B3.putL e1.h
   replace Blk:Bx By (w.heap.size + 1) 28 #[.int .i64 0]:=by rw[Bj];exact Blk.putL e1.h
   replace B4:Bx By (wr.heap.size) 3 #[.int .i64 ((l.length:Int))]:=by rw[Bj];exact B4.putL e1.h
   replace B2:Bx By (Bz.heap.size) 32 #[.slice (some ⟨bb,oo,none⟩) l.length C0]:=by rw[Bj];exact B2.putL e1.h
   replace B6:Bx By (W0.heap.size) 3 #[.int .i64 ((k:Int))]:=by rw[Bj];exact B6.putL e1.h
   replace B5:Bx By (W0.heap.size + 1) 69 #[.int .i64 p.1,.int .i64 p.2,.int .i64 q.1,.int .i64 q.2]:=by rw[Bj];exact B5.putL e1.h
   replace hD:AtB C1.heap.size (.deferred (some [])) By:=by rw[Bj];exact⟨(World.putObj_heap_other (by omega)).trans hD.h⟩
   replace B9:Kp (C1.heap.size + 2) W0 By:=by rw[Bj];exact B9.putL (by have:=B9.1;omega) _
   replace e1:AtB Cg (.loop (Cd .busy none)) By:=by rw[Bj];exact⟨World.putObj_heap_same (Array.getElem?_eq_some_iff.1 e1.h).1⟩
   clear Bj Dv
   have E8:=ae hs
   clear hs
   have hs:=Below.refl By.heap.size By
   have nb_p:=B3.lt
   have nb_k:=Blk.lt
   have nb_n:=B4.lt
   have nb_x4:=B2.lt
   have nb_i:=B6.lt
   have nb_e:=B5.lt
   have Fe1:=ae e1
   clear e1
   have FhD:=ae hD
   clear hD
   have FhT0:=ae B9
   clear B9
   gi_upto_region 13 with fail
   repeat ((with_reducible refine And.intro ?_ ?_);exact trivial;gi_upto_region 13 with fail)
   have AX6:IntKind.i64.wrap ((k:Int) + (l.length:Int))=(k:Int) + (l.length:Int):=IntWalk.i64_in _ (by omega)
   have AX7:IntKind.i64.wrap ((k:Int) + (l.length:Int) - 1)=(k:Int) + (l.length:Int) - 1:=IntWalk.i64_in _ (by omega)
   obtain⟨m9,Df⟩:∃z:Nat,z=(k + l.length - 1) % l.length:=⟨_,rfl⟩
   have hm9:m9 < l.length:=by rw[Df];exact Nat.mod_lt _ (by omega)
   have AX8:Int.tmod ((k:Int) + (l.length:Int) - 1) (l.length:Int)=(m9:Int):=by rw[Df];exact tmod_back _ _ (by omega)
   have AX8b:IntKind.i64.wrap (m9:Int)=(m9:Int):=IntWalk.i64_in _ (by omega)
   have AX8c:(l=[])=False:=eq_false (fun e=>by rw[e] at hm_;exact absurd hm_ (by simp))
   have AX8d:(0:Int)≤(m9:Int):=by omega
   have AX8e:(m9:Int) < (l.length:Int):=by omega
   replace Df:=ae Df
   obtain⟨Bh,Bi,le10⟩:=ij (HL.out.mono IP.kept (ar E8.out hs)) (show m9 < l.length by omega)
   obtain⟨B7,Bn⟩:∃z:Int,z=(ptZ l m9).1:=⟨_,rfl⟩
   rw[←Bn] at Bh
   replace Bn:=ae Bn.symm
   obtain⟨B8,Bo⟩:∃z:Int,z=(ptZ l m9).2:=⟨_,rfl⟩
   rw[←Bo] at Bi
   replace Bo:=ae Bo.symm
   gi_cut [8,9] from 1000 (fun kv0 kv1 wz=>∃Bl C2,kv0=.pointer (some ⟨Bl,0,none⟩)∧kv1=.pointer (some ⟨C2,0,none⟩)∧By.heap.size≤Bl∧Bl≠w.heap.size∧Bl≠(w.heap.size + 1)∧Bl≠wr.heap.size∧Bl≠Bz.heap.size∧Bl≠W0.heap.size∧Bl≠(W0.heap.size + 1)∧By.heap.size≤C2∧C2≠w.heap.size∧C2≠(w.heap.size + 1)∧C2≠wr.heap.size∧C2≠Bz.heap.size∧C2≠W0.heap.size∧C2≠(W0.heap.size + 1)∧Bl≠C2∧Bx wz Bl 24 #[.int .i64 (B7 - p.1),.int .i64 (B8 - p.2)]∧Bx wz C2 24 #[.int .i64 (q.1 - p.1),.int .i64 (q.2 - p.2)]∧Below By.heap.size By wz∧Bx wz (w.heap.size) 32 #[.slice (some ⟨bb,oo,none⟩) l.length C0]∧Bx wz (w.heap.size + 1) 28 #[.int .i64 0]∧Bx wz (wr.heap.size) 3 #[.int .i64 ((l.length:Int))]∧Bx wz (Bz.heap.size) 32 #[.slice (some ⟨bb,oo,none⟩) l.length C0]∧Bx wz (W0.heap.size) 3 #[.int .i64 ((k:Int))]∧Bx wz (W0.heap.size + 1) 69 #[.int .i64 p.1,.int .i64 p.2,.int .i64 q.1,.int .i64 q.2])
   case first=>
    refine jb5 (S:=fun w'=>w'.cell? ⟨w.heap.size,0,none⟩=some (.slice (some ⟨bb,oo,none⟩) l.length C0)∧w'.cell? ⟨W0.heap.size,0,none⟩=some (.int .i64 ((k:Int)))∧w'.cell? ⟨wr.heap.size,0,none⟩=some (.int .i64 ((l.length:Int)))∧w'.cell? ⟨W0.heap.size + 1,0,none⟩=some (.int .i64 p.1)∧w'.cell? ⟨W0.heap.size + 1,1,none⟩=some (.int .i64 p.2)∧w'.cell? ⟨W0.heap.size + 1,2,none⟩=some (.int .i64 q.1)∧w'.cell? ⟨W0.heap.size + 1,3,none⟩=some (.int .i64 q.2)∧w'.cell? ⟨bb,oo + m9 * 2,none⟩=some (.int .i64 B7)∧w'.cell? ⟨bb,oo + m9 * 2 + 1,none⟩=some (.int .i64 B8)) (by kernel_rfl) (fun _ _ h=>(show False from h)) (by kernel_rfl) 20 ?_
    refine cq.abs ?_
    intro Cj hW
    have hb:Below By.heap.size By Cj:=by rw[hW];exact de _
    replace hs:=ar hs hb
    revert B3 Blk B4 B2 B6 B5;refine mo hb ?_;intro B3 Blk B4 B2 B6 B5
    replace Bh:=ah Bh hb
    replace Bi:=ah Bi hb
    clear hb hW
    obtain⟨FP,HP⟩:∃FP:World→Prop,∀W,FP W↔(Below By.heap.size By W∧Bx W (w.heap.size) 32 #[.slice (some ⟨bb,oo,none⟩) l.length C0]∧Bx W (w.heap.size + 1) 28 #[.int .i64 0]∧Bx W (wr.heap.size) 3 #[.int .i64 ((l.length:Int))]∧Bx W (Bz.heap.size) 32 #[.slice (some ⟨bb,oo,none⟩) l.length C0]∧Bx W (W0.heap.size) 3 #[.int .i64 ((k:Int))]∧Bx W (W0.heap.size + 1) 69 #[.int .i64 p.1,.int .i64 p.2,.int .i64 q.1,.int .i64 q.2]∧W.cell? ⟨bb,oo + m9 * 2,none⟩=some (.int .i64 B7)∧W.cell? ⟨bb,oo + m9 * 2 + 1,none⟩=some (.int .i64 B8)):=⟨_,fun _=>Iff.rfl⟩
    have HM:∀W W',FP W→Below W.heap.size W W'→FP W':=by intro W W' h hb;obtain⟨hs,B3,Blk,B4,B2,B6,B5,Bh,Bi⟩:=(HP _).1 h;exact (HP _).2 ⟨ar hs hb,B3.mono hb,Blk.mono hb,B4.mono hb,B2.mono hb,B6.mono hb,B5.mono hb,ah Bh hb,ah Bi hb⟩
    have HC:∀W,FP W→W.cell? ⟨w.heap.size,0,none⟩=some (.slice (some ⟨bb,oo,none⟩) l.length C0)∧W.cell? ⟨W0.heap.size,0,none⟩=some (.int .i64 ((k:Int)))∧W.cell? ⟨wr.heap.size,0,none⟩=some (.int .i64 ((l.length:Int)))∧W.cell? ⟨W0.heap.size + 1,0,none⟩=some (.int .i64 p.1)∧W.cell? ⟨W0.heap.size + 1,1,none⟩=some (.int .i64 p.2)∧W.cell? ⟨W0.heap.size + 1,2,none⟩=some (.int .i64 q.1)∧W.cell? ⟨W0.heap.size + 1,3,none⟩=some (.int .i64 q.2)∧W.cell? ⟨bb,oo + m9 * 2,none⟩=some (.int .i64 B7)∧W.cell? ⟨bb,oo + m9 * 2 + 1,none⟩=some (.int .i64 B8):=by intro W h;obtain⟨hs,B3,Blk,B4,B2,B6,B5,Bh,Bi⟩:=(HP _).1 h;exact⟨B3.at 0 rfl,B6.at 0 rfl,B4.at 0 rfl,B5.at 0 rfl,B5.at 1 rfl,B5.at 2 rfl,B5.at 3 rfl,Bh,Bi⟩
    obtain⟨NE,HN⟩:∃NE:Nat→Prop,∀g,NE g↔(w.heap.size≠g∧(w.heap.size + 1)≠g∧wr.heap.size≠g∧Bz.heap.size≠g∧W0.heap.size≠g∧(W0.heap.size + 1)≠g∧bb≠g):=⟨_,fun _=>Iff.rfl⟩
    have HE:∀W,FP W→NE W.heap.size:=by intro W h;obtain⟨hs,B3,Blk,B4,B2,B6,B5,Bh,Bi⟩:=(HP _).1 h;exact (HN _).2 (⟨Nat.ne_of_lt B3.lt,Nat.ne_of_lt Blk.lt,Nat.ne_of_lt B4.lt,Nat.ne_of_lt B2.lt,Nat.ne_of_lt B6.lt,Nat.ne_of_lt B5.lt,Nat.ne_of_lt (block_lt_of_cell Bh)⟩)
    have HG:∀W W' g,FP W→Gr [g] W W'→aw W W'→By.heap.size≤g→NE g→FP W':=by intro W W' g h hG hk hg hn;obtain⟨hs,B3,Blk,B4,B2,B6,B5,Bh,Bi⟩:=(HP _).1 h;obtain⟨e_p,e_k,e_n,e_x4,e_i,e_e,x0⟩:=(HN g).1 hn;exact (HP _).2 ⟨hs.trans (hG.below1 hs.size hg),hG.bx B3 (az e_p),hG.bx Blk (az e_k),hG.bx B4 (az e_n),hG.bx B2 (az e_x4),hG.bx B6 (az e_i),hG.bx B5 (az e_e),hG.cell Bh (az x0),hG.cell Bi (az x0)⟩
    have F:FP Cj:=(HP _).2 ⟨hs,B3,Blk,B4,B2,B6,B5,Bh,Bi⟩
    clear hs B3 Blk B4 B2 B6 B5 Bh Bi
    have hH:=HC _ F
    refine U_td 0 36 hH ?_
    refine U_td 1 37 hH ?_
    refine U_td 2 38 hH ?_
    refine U_td 3 39 hH ?_
    refine U_td 4 40 hH ?_
    refine U_td 5 41 hH ?_
    refine U_td 6 42 hH ?_
    refine U_td 7 43 hH ?_
    refine U_td 8 44 hH ?_
    refine U_td 9 45 hH ?_
    refine U_td 10 46 hH ?_
    refine U_td 12 48 hH ?_
    refine U_td 13 49 hH ?_
    refine U_td 14 50 hH ?_
    refine U_td 15 51 hH ?_
    clear hH
    refine ks ?_
    intro X a0 HX HA
    have D4:∀(W:World) (Bb:Nat) (Bc:Nat),FP W→(By.heap.size≤Bb)→(NE Bb)→(Bx W Bb 24 #[.int .i64 0,.int .i64 0])→(By.heap.size≤Bc)→(NE Bc)→(Bx W Bc 24 #[.int .i64 0,.int .i64 0])→(Bb≠Bc)→X 2 (LB 21 524287) ((((a0.put (some 47) (.agg #[.int .i64 (B7 - p.1),.int .i64 (B8 - p.2)])).put (some 52) (.agg #[.int .i64 (q.1 - p.1),.int .i64 (q.2 - p.2)])).put (some 8) (.pointer (some ⟨Bb,0,none⟩))).put (some 9) (.pointer (some ⟨Bc,0,none⟩))) W:=by
     intro W Bb Bc F Be Bd B0 Bt Bs B1 Bk
     rw[←HX.out,←HA.out]
     try simp only[LY]
     refine B0.k2fl fun Ch Ci fback D8=>?_
     refine U_on 19 fun K hK=>?_
     go_simp
     generalize hW_:((W.setCell ⟨Bb,0,none⟩ (.int .i64 (B7 - p.1))).setCell ⟨Bb,1,none⟩ (.int .i64 (B8 - p.2)))=C5
     have hW:=hW_.symm
     clear hW_
     have hG:Gr [Bb] W C5:=by rw[hW];exact (Gr.refl _ _).set.set
     have hk:=hG.keep ⟨⟨_,B0.ty,by decide⟩,True.intro⟩
     replace B0:Bx C5 (Bb) 24 #[.int .i64 (B7 - p.1),.int .i64 (B8 - p.2)]:=by rw[hW];exact B0.set2
     replace F:=HG _ _ _ F hG hk Be Bd
     replace B1:=hG.b1 B1
     clear hW hG hk
     refine hK.out _ _ (HC _ F) (fun hH=>?_)
     clear hK K
     try simp only[LY]
     clear hH
     refine B1.k2fl fun D9 Da fon E9=>?_
     refine dr (by kernel_rfl) rfl (by kernel_rfl) (fun K hK=>?_)
     go_simp
     refine hK.out _ _ ?_
     clear hK K
     intro C6 hW
     have hG:Gr [Bc] C5 C6:=by rw[hW];exact (Gr.refl _ _).set.set
     have hk:=hG.keep ⟨⟨_,B1.ty,by decide⟩,True.intro⟩
     replace B1:Bx C6 (Bc) 24 #[.int .i64 (q.1 - p.1),.int .i64 (q.2 - p.2)]:=by rw[hW];exact B1.set2
     replace F:=HG _ _ _ F hG hk Bt Bs
     replace B0:=hG.b1 B0
     clear hW hG hk
     obtain⟨hs,B3,Blk,B4,B2,B6,B5,Bh,Bi⟩:=(HP _).1 F
     try simp only[LY]
     obtain⟨Jb,J9,Ja,Ev,J8,J7,K7⟩:=(HN _).1 Bd
     obtain⟨e_p_on,e_k_on,e_n_on,Jr,e_i_on,e_e_on,x0_on⟩:=(HN _).1 Bs
     clear HX HA HM HP HC HG HN HE
     gi_wp2_with fail
     try ((with_reducible refine And.intro ?_ (And.intro ?_ ?_));exact trivial;exact rfl)
     repeat ((with_reducible refine And.intro ?_ ?_);exact trivial;gi_wp2_with fail)
     try ((with_reducible refine And.intro ?_ (And.intro ?_ ?_));exact trivial;exact rfl)
     gi_meet
     exact⟨Bb,Bc,rfl,rfl,(by first|exact Be|omega),(by omega),(by omega),(by omega),(by omega),(by omega),(by omega),(by first|exact Bt|omega),(by omega),(by omega),(by omega),(by omega),(by omega),(by omega),(by omega),B0,B1,hs,B3,Blk,B4,B2,B6,B5⟩
    replace D4:=ae D4
    have D3:∀(W:World) (Bb:Nat) (Bc:Nat),FP W→(By.heap.size≤Bb)→(NE Bb)→(Bx W Bb 24 #[.int .i64 0,.int .i64 0])→(By.heap.size≤Bc)→(NE Bc)→(Bx W Bc 24 #[.int .i64 0,.int .i64 0])→(Bb≠Bc)→X 3 (LB 21 458751) (((a0.put (some 47) (.agg #[.int .i64 (B7 - p.1),.int .i64 (B8 - p.2)])).put (some 8) (.pointer (some ⟨Bb,0,none⟩))).put (some 9) (.pointer (some ⟨Bc,0,none⟩))) W:=by
     intro W Bb Bc F Be Bd B0 Bt Bs B1 Bk
     rw[←HX.out,←HA.out]
     try simp only[LY]
     refine U_on 16 fun K hK=>?_
     obtain⟨hs,B3,Blk,B4,B2,B6,B5,Bh,Bi⟩:=(HP _).1 F
     go_simp
     (with_reducible refine (di q.1 q.2 p.1 p.2 _ (Wn.wsub Bq.1 Bp.1 (by decide)) (Wn.wsub Bq.2 Bp.2 (by decide))).mono ?_)
     rintro e W1 ⟨rfl,hb⟩
     replace F:=HM _ _ F hb
     revert B0 B1;refine mo hb ?_;intro B0 B1
     clear hb hs B3 Blk B4 B2 B6 B5 Bh Bi
     try gi_wp2_with fail
     exact hK.out _ _ (HC _ F) fun _=>bf HX HA (D4.out W1 Bb Bc F Be Bd B0 Bt Bs B1 Bk)
    replace D3:=ae D3
    have Dq:∀(W:World) (Bc:Nat),FP W→(By.heap.size≤Bc)→(NE Bc)→(Bx W Bc 24 #[.int .i64 0,.int .i64 0])→X 3 (LB 21 393215) (((a0.put (some 47) (.agg #[.int .i64 (B7 - p.1),.int .i64 (B8 - p.2)])).put (some 52) (.agg #[.int .i64 (q.1 - p.1),.int .i64 (q.2 - p.2)])).put (some 9) (.pointer (some ⟨Bc,0,none⟩))) W:=by
     intro W Bc F Bt Bs B1
     rw[←HX.out,←HA.out]
     try simp only[LY]
     refine U_on 17 fun K hK=>?_
     go_simp
     refine aq ((HP _).1 F).1 (fun W1 hb B0 Be=>?_)
     have Bd:=HE _ F
     have Bk:=Nat.ne_of_gt B1.lt
     replace F:=HM _ _ F hb
     replace B1:=B1.mono hb
     clear hb
     exact hK.out _ _ (HC _ F) fun _=>bf HX HA (D4.out W1 W.heap.size Bc F Be Bd B0 Bt Bs B1 Bk)
    replace Dq:=ae Dq
    have Dp:∀(W:World) (Bb:Nat),FP W→(By.heap.size≤Bb)→(NE Bb)→(Bx W Bb 24 #[.int .i64 0,.int .i64 0])→X 3 (LB 21 262143) (((a0.put (some 47) (.agg #[.int .i64 (B7 - p.1),.int .i64 (B8 - p.2)])).put (some 52) (.agg #[.int .i64 (q.1 - p.1),.int .i64 (q.2 - p.2)])).put (some 8) (.pointer (some ⟨Bb,0,none⟩))) W:=by
     intro W Bb F Be Bd B0
     rw[←HX.out,←HA.out]
     try simp only[LY]
     refine U_on 18 fun K hK=>?_
     go_simp
     refine aq ((HP _).1 F).1 (fun W1 hb B1 Bt=>?_)
     have Bs:=HE _ F
     have Bk:=Nat.ne_of_lt B0.lt
     replace F:=HM _ _ F hb
     replace B0:=B0.mono hb
     clear hb
     exact hK.out _ _ (HC _ F) fun _=>bf HX HA (D4.out W1 Bb W.heap.size F Be Bd B0 Bt Bs B1 Bk)
    replace Dp:=ae Dp
    have Do:∀(W:World) (Bb:Nat) (Bc:Nat),FP W→(By.heap.size≤Bb)→(NE Bb)→(Bx W Bb 24 #[.int .i64 0,.int .i64 0])→(By.heap.size≤Bc)→(NE Bc)→(Bx W Bc 24 #[.int .i64 0,.int .i64 0])→(Bb≠Bc)→X 4 (LB 21 456703) ((a0.put (some 8) (.pointer (some ⟨Bb,0,none⟩))).put (some 9) (.pointer (some ⟨Bc,0,none⟩))) W:=by
     intro W Bb Bc F Be Bd B0 Bt Bs B1 Bk
     rw[←HX.out,←HA.out]
     try simp only[LY]
     refine U_on 11 fun K hK=>?_
     obtain⟨hs,B3,Blk,B4,B2,B6,B5,Bh,Bi⟩:=(HP _).1 F
     go_simp
     (with_reducible refine (di B7 B8 p.1 p.2 _ (Wn.wsub (show WP 1048576 (B7,B8) from by rw[←(show _=(B7,B8) from Prod.ext Bn.out Bo.out)];exact WP.pt (by decide) HW.out _).1 Bp.1 (by decide)) (Wn.wsub (show WP 1048576 (B7,B8) from by rw[←(show _=(B7,B8) from Prod.ext Bn.out Bo.out)];exact WP.pt (by decide) HW.out _).2 Bp.2 (by decide))).mono ?_)
     rintro e W1 ⟨rfl,hb⟩
     replace F:=HM _ _ F hb
     revert B0 B1;refine mo hb ?_;intro B0 B1
     clear hb hs B3 Blk B4 B2 B6 B5 Bh Bi
     try gi_wp2_with fail
     exact hK.out _ _ (HC _ F) fun _=>bf HX HA (D3.out W1 Bb Bc F Be Bd B0 Bt Bs B1 Bk)
    replace Do:=ae Do
    have Dn:∀(W:World) (Bc:Nat),FP W→(By.heap.size≤Bc)→(NE Bc)→(Bx W Bc 24 #[.int .i64 0,.int .i64 0])→X 4 (LB 21 327679) ((a0.put (some 47) (.agg #[.int .i64 (B7 - p.1),.int .i64 (B8 - p.2)])).put (some 9) (.pointer (some ⟨Bc,0,none⟩))) W:=by
     intro W Bc F Bt Bs B1
     rw[←HX.out,←HA.out]
     try simp only[LY]
     refine dq (i:=16) (j:=17) (by kernel_rfl) rfl rfl  (fun K hK=>?_) (fun K hK=>?_)
     ·obtain⟨hs,B3,Blk,B4,B2,B6,B5,Bh,Bi⟩:=(HP _).1 F
      go_simp
      (with_reducible refine (di q.1 q.2 p.1 p.2 _ (Wn.wsub Bq.1 Bp.1 (by decide)) (Wn.wsub Bq.2 Bp.2 (by decide))).mono ?_)
      rintro e W1 ⟨rfl,hb⟩
      replace F:=HM _ _ F hb
      replace B1:=B1.mono hb
      clear hb hs B3 Blk B4 B2 B6 B5 Bh Bi
      try gi_wp2_with fail
      exact hK.out _ _ (HC _ F) fun _=>bf HX HA (Dq.out W1 Bc F Bt Bs B1)
     go_simp
     refine aq ((HP _).1 F).1 (fun W1 hb B0 Be=>?_)
     have Bd:=HE _ F
     have Bk:=Nat.ne_of_gt B1.lt
     replace F:=HM _ _ F hb
     replace B1:=B1.mono hb
     clear hb
     exact hK.out _ _ (HC _ F) fun _=>bf HX HA (D3.out W1 W.heap.size Bc F Be Bd B0 Bt Bs B1 Bk)
    replace Dn:=ae Dn
    have Dm:∀(W:World) (Bb:Nat),FP W→(By.heap.size≤Bb)→(NE Bb)→(Bx W Bb 24 #[.int .i64 0,.int .i64 0])→X 4 (LB 21 196607) ((a0.put (some 47) (.agg #[.int .i64 (B7 - p.1),.int .i64 (B8 - p.2)])).put (some 8) (.pointer (some ⟨Bb,0,none⟩))) W:=by
     intro W Bb F Be Bd B0
     rw[←HX.out,←HA.out]
     try simp only[LY]
     refine dq (i:=16) (j:=18) (by kernel_rfl) rfl rfl  (fun K hK=>?_) (fun K hK=>?_)
     ·obtain⟨hs,B3,Blk,B4,B2,B6,B5,Bh,Bi⟩:=(HP _).1 F
      go_simp
      (with_reducible refine (di q.1 q.2 p.1 p.2 _ (Wn.wsub Bq.1 Bp.1 (by decide)) (Wn.wsub Bq.2 Bp.2 (by decide))).mono ?_)
      rintro e W1 ⟨rfl,hb⟩
      replace F:=HM _ _ F hb
      replace B0:=B0.mono hb
      clear hb hs B3 Blk B4 B2 B6 B5 Bh Bi
      try gi_wp2_with fail
      exact hK.out _ _ (HC _ F) fun _=>bf HX HA (Dp.out W1 Bb F Be Bd B0)
     go_simp
     refine aq ((HP _).1 F).1 (fun W1 hb B1 Bt=>?_)
     have Bs:=HE _ F
     have Bk:=Nat.ne_of_lt B0.lt
     replace F:=HM _ _ F hb
     replace B0:=B0.mono hb
     clear hb
     exact hK.out _ _ (HC _ F) fun _=>bf HX HA (D3.out W1 Bb W.heap.size F Be Bd B0 Bt Bs B1 Bk)
    replace Dm:=ae Dm
    have E1:∀(W:World),FP W→X 4 (LB 21 131071) ((a0.put (some 47) (.agg #[.int .i64 (B7 - p.1),.int .i64 (B8 - p.2)])).put (some 52) (.agg #[.int .i64 (q.1 - p.1),.int .i64 (q.2 - p.2)])) W:=by
     intro W F
     rw[←HX.out,←HA.out]
     try simp only[LY]
     refine dq (i:=17) (j:=18) (by kernel_rfl) rfl rfl  (fun K hK=>?_) (fun K hK=>?_)
     ·go_simp
      refine aq ((HP _).1 F).1 (fun W1 hb B0 Be=>?_)
      have Bd:=HE _ F
      replace F:=HM _ _ F hb
      clear hb
      exact hK.out _ _ (HC _ F) fun _=>bf HX HA (Dp.out W1 W.heap.size F Be Bd B0)
     go_simp
     refine aq ((HP _).1 F).1 (fun W1 hb B1 Bt=>?_)
     have Bs:=HE _ F
     replace F:=HM _ _ F hb
     clear hb
     exact hK.out _ _ (HC _ F) fun _=>bf HX HA (Dq.out W1 W.heap.size F Bt Bs B1)
    replace E1:=ae E1
    have E0:∀(W:World) (Bc:Nat),FP W→(By.heap.size≤Bc)→(NE Bc)→(Bx W Bc 24 #[.int .i64 0,.int .i64 0])→X 5 (LB 21 325631) (a0.put (some 9) (.pointer (some ⟨Bc,0,none⟩))) W:=by
     intro W Bc F Bt Bs B1
     rw[←HX.out,←HA.out]
     try simp only[LY]
     refine dq (i:=11) (j:=17) (by kernel_rfl) rfl rfl  (fun K hK=>?_) (fun K hK=>?_)
     ·obtain⟨hs,B3,Blk,B4,B2,B6,B5,Bh,Bi⟩:=(HP _).1 F
      go_simp
      (with_reducible refine (di B7 B8 p.1 p.2 _ (Wn.wsub (show WP 1048576 (B7,B8) from by rw[←(show _=(B7,B8) from Prod.ext Bn.out Bo.out)];exact WP.pt (by decide) HW.out _).1 Bp.1 (by decide)) (Wn.wsub (show WP 1048576 (B7,B8) from by rw[←(show _=(B7,B8) from Prod.ext Bn.out Bo.out)];exact WP.pt (by decide) HW.out _).2 Bp.2 (by decide))).mono ?_)
      rintro e W1 ⟨rfl,hb⟩
      replace F:=HM _ _ F hb
      replace B1:=B1.mono hb
      clear hb hs B3 Blk B4 B2 B6 B5 Bh Bi
      try gi_wp2_with fail
      exact hK.out _ _ (HC _ F) fun _=>bf HX HA (Dn.out W1 Bc F Bt Bs B1)
     go_simp
     refine aq ((HP _).1 F).1 (fun W1 hb B0 Be=>?_)
     have Bd:=HE _ F
     have Bk:=Nat.ne_of_gt B1.lt
     replace F:=HM _ _ F hb
     replace B1:=B1.mono hb
     clear hb
     exact hK.out _ _ (HC _ F) fun _=>bf HX HA (Do.out W1 W.heap.size Bc F Be Bd B0 Bt Bs B1 Bk)
    replace E0:=ae E0
    have Dz:∀(W:World) (Bb:Nat),FP W→(By.heap.size≤Bb)→(NE Bb)→(Bx W Bb 24 #[.int .i64 0,.int .i64 0])→X 5 (LB 21 194559) (a0.put (some 8) (.pointer (some ⟨Bb,0,none⟩))) W:=by
     intro W Bb F Be Bd B0
     rw[←HX.out,←HA.out]
     try simp only[LY]
     refine dq (i:=11) (j:=18) (by kernel_rfl) rfl rfl  (fun K hK=>?_) (fun K hK=>?_)
     ·obtain⟨hs,B3,Blk,B4,B2,B6,B5,Bh,Bi⟩:=(HP _).1 F
      go_simp
      (with_reducible refine (di B7 B8 p.1 p.2 _ (Wn.wsub (show WP 1048576 (B7,B8) from by rw[←(show _=(B7,B8) from Prod.ext Bn.out Bo.out)];exact WP.pt (by decide) HW.out _).1 Bp.1 (by decide)) (Wn.wsub (show WP 1048576 (B7,B8) from by rw[←(show _=(B7,B8) from Prod.ext Bn.out Bo.out)];exact WP.pt (by decide) HW.out _).2 Bp.2 (by decide))).mono ?_)
      rintro e W1 ⟨rfl,hb⟩
      replace F:=HM _ _ F hb
      replace B0:=B0.mono hb
      clear hb hs B3 Blk B4 B2 B6 B5 Bh Bi
      try gi_wp2_with fail
      exact hK.out _ _ (HC _ F) fun _=>bf HX HA (Dm.out W1 Bb F Be Bd B0)
     go_simp
     refine aq ((HP _).1 F).1 (fun W1 hb B1 Bt=>?_)
     have Bs:=HE _ F
     have Bk:=Nat.ne_of_lt B0.lt
     replace F:=HM _ _ F hb
     replace B0:=B0.mono hb
     clear hb
     exact hK.out _ _ (HC _ F) fun _=>bf HX HA (Do.out W1 Bb W.heap.size F Be Bd B0 Bt Bs B1 Bk)
    replace Dz:=ae Dz
    have Dy:∀(W:World),FP W→X 5 (LB 21 65535) (a0.put (some 47) (.agg #[.int .i64 (B7 - p.1),.int .i64 (B8 - p.2)])) W:=by
     intro W F
     rw[←HX.out,←HA.out]
     try simp only[LY]
     refine jv (i:=16) (j:=17) (k:=18) (by kernel_rfl) rfl rfl rfl  (fun K hK=>?_) (fun K hK=>?_) (fun K hK=>?_)
     ·obtain⟨hs,B3,Blk,B4,B2,B6,B5,Bh,Bi⟩:=(HP _).1 F
      go_simp
      (with_reducible refine (di q.1 q.2 p.1 p.2 _ (Wn.wsub Bq.1 Bp.1 (by decide)) (Wn.wsub Bq.2 Bp.2 (by decide))).mono ?_)
      rintro e W1 ⟨rfl,hb⟩
      replace F:=HM _ _ F hb
      clear hb hs B3 Blk B4 B2 B6 B5 Bh Bi
      try gi_wp2_with fail
      exact hK.out _ _ (HC _ F) fun _=>bf HX HA (E1.out W1 F)
     ·go_simp
      refine aq ((HP _).1 F).1 (fun W1 hb B0 Be=>?_)
      have Bd:=HE _ F
      replace F:=HM _ _ F hb
      clear hb
      exact hK.out _ _ (HC _ F) fun _=>bf HX HA (Dm.out W1 W.heap.size F Be Bd B0)
     go_simp
     refine aq ((HP _).1 F).1 (fun W1 hb B1 Bt=>?_)
     have Bs:=HE _ F
     replace F:=HM _ _ F hb
     clear hb
     exact hK.out _ _ (HC _ F) fun _=>bf HX HA (Dn.out W1 W.heap.size F Bt Bs B1)
    replace Dy:=ae Dy
    have Dx:∀(W:World),FP W→X 6 (LB 21 63487) a0 W:=by
     intro W F
     rw[←HX.out,←HA.out]
     try simp only[LY]
     refine jv (i:=11) (j:=17) (k:=18) (by kernel_rfl) rfl rfl rfl  (fun K hK=>?_) (fun K hK=>?_) (fun K hK=>?_)
     ·obtain⟨hs,B3,Blk,B4,B2,B6,B5,Bh,Bi⟩:=(HP _).1 F
      go_simp
      (with_reducible refine (di B7 B8 p.1 p.2 _ (Wn.wsub (show WP 1048576 (B7,B8) from by rw[←(show _=(B7,B8) from Prod.ext Bn.out Bo.out)];exact WP.pt (by decide) HW.out _).1 Bp.1 (by decide)) (Wn.wsub (show WP 1048576 (B7,B8) from by rw[←(show _=(B7,B8) from Prod.ext Bn.out Bo.out)];exact WP.pt (by decide) HW.out _).2 Bp.2 (by decide))).mono ?_)
      rintro e W1 ⟨rfl,hb⟩
      replace F:=HM _ _ F hb
      clear hb hs B3 Blk B4 B2 B6 B5 Bh Bi
      try gi_wp2_with fail
      exact hK.out _ _ (HC _ F) fun _=>bf HX HA (Dy.out W1 F)
     ·go_simp
      refine aq ((HP _).1 F).1 (fun W1 hb B0 Be=>?_)
      have Bd:=HE _ F
      replace F:=HM _ _ F hb
      clear hb
      exact hK.out _ _ (HC _ F) fun _=>bf HX HA (Dz.out W1 W.heap.size F Be Bd B0)
     go_simp
     refine aq ((HP _).1 F).1 (fun W1 hb B1 Bt=>?_)
     have Bs:=HE _ F
     replace F:=HM _ _ F hb
     clear hb
     exact hK.out _ _ (HC _ F) fun _=>bf HX HA (E0.out W1 W.heap.size F Bt Bs B1)
    replace Dx:=ae Dx
    rw[←HX.out]
    have Ba:=Dx.out Cj F
    rw[←HX.out] at Ba
    exact U_at (by kernel_rfl) (by kernel_rfl) Ba
   case rest=>
    clear hs Bh Bi B3 Blk B4 B2 B6 B5
    obtain⟨Bl,C2,rfl,rfl,Js,J2,J0,J1,Eu,Ez,Ey,hg_on,Jx,Jv,Jw,Jc,Ju,Jt,Et,B0,B1,hs,B3,Blk,B4,B2,B6,B5⟩:=hcut
    have e1:=atB _ _ _ Fe1.out hs
    have hD:=atB _ _ _ FhD.out hs
    have B9:=kpJ _ _ _ FhT0.out hs
    replace hs:=ar E8.out hs
    refine B0.k2l fun Ch Ci D8=>?_
    refine B1.k2l fun D9 Da E9=>?_
    gi_wp2_with fail
    try ((with_reducible refine And.intro ?_ (And.intro ?_ ?_));exact trivial;exact rfl)
    repeat ((with_reducible refine And.intro ?_ ?_);exact trivial;gi_wp2_with fail)
    try ((with_reducible refine And.intro ?_ (And.intro ?_ ?_));exact trivial;exact rfl)
    clear Ch Ci D9 Da D8 E9
    with_reducible refine (kb (pg (B7 - p.1) (B8 - p.2) (q.1 - p.1) (q.2 - p.2) _ (Wn.wmul (Wn.sub (show WP 1048576 (B7,B8) from by rw[←(show _=(B7,B8) from Prod.ext Bn.out Bo.out)];exact WP.pt (by decide) HW.out _).1 Bp.1) (Wn.sub Bq.2 Bp.2) (by decide)) (Wn.wmul (Wn.sub (show WP 1048576 (B7,B8) from by rw[←(show _=(B7,B8) from Prod.ext Bn.out Bo.out)];exact WP.pt (by decide) HW.out _).2 Bp.2) (Wn.sub Bq.1 Bp.1) (by decide)) (Wn.wsub (Wn.mul (Wn.sub (show WP 1048576 (B7,B8) from by rw[←(show _=(B7,B8) from Prod.ext Bn.out Bo.out)];exact WP.pt (by decide) HW.out _).1 Bp.1) (Wn.sub Bq.2 Bp.2)) (Wn.mul (Wn.sub (show WP 1048576 (B7,B8) from by rw[←(show _=(B7,B8) from Prod.ext Bn.out Bo.out)];exact WP.pt (by decide) HW.out _).2 Bp.2) (Wn.sub Bq.1 Bp.1)) (by decide)))).mono ?_
    rintro e Cj ⟨rfl,hb⟩
    replace hs:=ar hs hb
    revert B5;revert B6;revert B2;revert B4;revert Blk;revert B3;revert B1;revert B0;refine mo hb ?_;intro B0 B1 B3 Blk B4 B2 B6 B5
    replace e1:=atB _ _ _ e1 hb
    replace hD:=atB _ _ _ hD hb
    replace B9:=kpJ _ _ _ B9 hb
    clear hb
    obtain⟨Di,Cy⟩:∃s:Int,s=(B7 - p.1) * (q.2 - p.2) - (B8 - p.2) * (q.1 - p.1):=⟨_,rfl⟩
    rw[←Cy]
    replace Cy:=ae Cy
    by_cases q12:Di=0
    ·have q12b:(Di == 0)=true:=beq_iff_eq.2 (by omega)
     have q12n:(Di != 0)=false:=bne_eq_false_iff_eq.2 (by omega)
     have E2:=ae q12
     clear q12
     refine B0.k2l fun Ch Ci D8=>?_
     refine B1.k2l fun D9 Da E9=>?_
     gi_wp2_with fail
     try ((with_reducible refine And.intro ?_ (And.intro ?_ ?_));exact trivial;exact rfl)
     repeat ((with_reducible refine And.intro ?_ ?_);exact trivial;gi_wp2_with fail)
     try ((with_reducible refine And.intro ?_ (And.intro ?_ ?_));exact trivial;exact rfl)
     clear Ch Ci D9 Da D8 E9
     with_reducible refine (kb (pl_dot (B7 - p.1) (B8 - p.2) (q.1 - p.1) (q.2 - p.2) _ (Wn.wmul (Wn.sub (show WP 1048576 (B7,B8) from by rw[←(show _=(B7,B8) from Prod.ext Bn.out Bo.out)];exact WP.pt (by decide) HW.out _).1 Bp.1) (Wn.sub Bq.1 Bp.1) (by decide)) (Wn.wmul (Wn.sub (show WP 1048576 (B7,B8) from by rw[←(show _=(B7,B8) from Prod.ext Bn.out Bo.out)];exact WP.pt (by decide) HW.out _).2 Bp.2) (Wn.sub Bq.2 Bp.2) (by decide)) (Wn.wadd (Wn.mul (Wn.sub (show WP 1048576 (B7,B8) from by rw[←(show _=(B7,B8) from Prod.ext Bn.out Bo.out)];exact WP.pt (by decide) HW.out _).1 Bp.1) (Wn.sub Bq.1 Bp.1)) (Wn.mul (Wn.sub (show WP 1048576 (B7,B8) from by rw[←(show _=(B7,B8) from Prod.ext Bn.out Bo.out)];exact WP.pt (by decide) HW.out _).2 Bp.2) (Wn.sub Bq.2 Bp.2)) (by decide)))).mono ?_
     rintro e C5 ⟨rfl,hb⟩
     replace hs:=ar hs hb
     revert B0 B1 B3 Blk B4 B2 B6 B5;refine mo hb ?_;intro B0 B1 B3 Blk B4 B2 B6 B5
     replace e1:=atB _ _ _ e1 hb
     replace hD:=atB _ _ _ hD hb
     replace B9:=kpJ _ _ _ B9 hb
     clear hb
     obtain⟨Dj,Cz⟩:∃s:Int,s=(B7 - p.1) * (q.1 - p.1) + (B8 - p.2) * (q.2 - p.2):=⟨_,rfl⟩
     rw[←Cz]
     replace Cz:=ae Cz
     gi_upto_if 62 with (fail)
     repeat ((with_reducible refine And.intro ?_ ?_);exact trivial;gi_upto_if 62 with (fail))
     gi_cut [58,59,60,61,62] from 1000 (fun kf58 kf59 kf60 kf61 kf62 wz=>Below w.heap.size w wz∧Bx wz (w.heap.size) 32 #[.slice (some ⟨bb,oo,none⟩) l.length C0]∧Bx wz (w.heap.size + 1) 28 #[.int .i64 0]∧Bx wz (wr.heap.size) 3 #[.int .i64 ((l.length:Int))]∧Bx wz (Bz.heap.size) 32 #[.slice (some ⟨bb,oo,none⟩) l.length C0]∧Bx wz (W0.heap.size) 3 #[.int .i64 ((k:Int))]∧Bx wz (W0.heap.size + 1) 69 #[.int .i64 p.1,.int .i64 p.2,.int .i64 q.1,.int .i64 q.2]∧Bx wz (Bl) 24 #[.int .i64 (B7 - p.1),.int .i64 (B8 - p.2)]∧Bx wz (C2) 24 #[.int .i64 (q.1 - p.1),.int .i64 (q.2 - p.2)]∧AtB Cg (.loop (Cd .busy none)) wz∧AtB C1.heap.size (.deferred (some [])) wz∧Kp (C1.heap.size + 2) W0 wz∧qm l k=false)
     case first=>
      by_cases q14:0≤Dj
      ·have E3:((0:Int)≤Dj)=True:=eq_true (by omega)
       try simp only[E3]
       refine Blk.k1fl fun C9 fk Lk=>?_
       gi_wp2
       repeat ((with_reducible refine And.intro ?_ ?_);exact trivial;gi_wp2)
       clear C9 fk Lk
       generalize hW_:(C5.setCell ⟨w.heap.size + 1,0,none⟩ (.int .i64 20))=C6
       have hW:=hW_.symm
       clear hW_
       have hG:Gr [w.heap.size + 1] C5 C6:=by rw[hW];exact (Gr.refl _ _).set
       have Cf:=hs.size
       have lk:=Blk.lt
       have C4:Bx C6 (w.heap.size + 1) 28 #[.int .i64 20]:=by rw[hW];exact (Bx.set Blk 0 _ rfl)
       replace hs:=hs.trans (hG.d1 hs.size)
       replace e1:=e1.gr hG (az (by have:=B9.1;omega))
       replace hD:=hD.gr hG (az (by have:=B9.1;omega))
       replace B9:=Kp.gr1 B9 hG (by have:=B9.1;omega)
       replace B3:=hG.b1 B3
       replace B4:=hG.b1 B4
       replace B2:=hG.b1 B2
       replace B6:=hG.b1 B6
       replace B5:=hG.b1 B5
       replace B0:=hG.b1 B0
       replace B1:=hG.b1 B1
       replace Blk:=C4
       clear C4
       clear hW hG Cf lk
       exact Dk.out .ret _ _ ⟨e1.h,hs,B2,B9,⟨rfl,Blk,chk_bad hn hn2 Ds.out (k:=k) (by omega) (bad_fold (fold_tt (show ptZ l ((k + l.length - 1) % l.length)=(B7,B8) from by rw[←Df.out];exact Prod.ext Bn.out Bo.out) Hp.out Hq.out (Cy.out.symm.trans E2.out) (by rw[show dtZ (mnZ (B7,B8) p) (mnZ q p)=Dj from Cz.out.symm];omega)))⟩⟩ hD.h
      have E3:((0:Int)≤Dj)=False:=eq_false (by omega)
      try simp only[E3]
      gi_wp2_with fail
      try ((with_reducible refine And.intro ?_ (And.intro ?_ ?_));exact trivial;exact rfl)
      repeat ((with_reducible refine And.intro ?_ ?_);exact trivial;gi_wp2_with fail)
      try ((with_reducible refine And.intro ?_ (And.intro ?_ ?_));exact trivial;exact rfl)
      gi_meet
      exact⟨hs,B3,Blk,B4,B2,B6,B5,B0,B1,e1,hD,B9,fold_f2 (show ptZ l ((k + l.length - 1) % l.length)=(B7,B8) from by rw[←Df.out];exact Prod.ext Bn.out Bo.out) Hp.out Hq.out (by rw[show dtZ (mnZ (B7,B8) p) (mnZ q p)=Dj from Cz.out.symm];omega)⟩
     case rest=>
      clear hs B3 Blk B4 B2 B6 B5 B0 B1 e1 hD B9
      obtain⟨hs,B3,Blk,B4,B2,B6,B5,B0,B1,e1,hD,B9,HF⟩:=hcut
      refine B3.k1l fun Dh Lp=>?_
      gi_wp2_with fail
      try ((with_reducible refine And.intro ?_ (And.intro ?_ ?_));exact trivial;exact rfl)
      repeat ((with_reducible refine And.intro ?_ ?_);exact trivial;gi_wp2_with fail)
      try ((with_reducible refine And.intro ?_ (And.intro ?_ ?_));exact trivial;exact rfl)
      clear Dh Lp
      have Jq:=B3.lt
      have Jm:=Blk.lt
      have Jo:=B4.lt
      have J6:=B2.lt
      have Jk:=B6.lt
      have Ji:=B5.lt
      have Eq:=B0.lt
      have J4:=B1.lt
      with_reducible refine (kb (ph _ _ _ _)).mono ?_
      rintro e C6 ⟨rfl,Bw,hb⟩
      replace hs:=ar hs hb
      revert B3 Blk B4 B2 B6 B5 B0 B1;refine mo hb ?_;intro B3 Blk B4 B2 B6 B5 B0 B1
      replace e1:=atB _ _ _ e1 hb
      replace hD:=atB _ _ _ hD hb
      replace B9:=kpJ _ _ _ B9 hb
      clear hb
      gi_wp2_with fail
      try ((with_reducible refine And.intro ?_ (And.intro ?_ ?_));exact trivial;exact rfl)
      repeat ((with_reducible refine And.intro ?_ ?_);exact trivial;gi_wp2_with fail)
      try ((with_reducible refine And.intro ?_ (And.intro ?_ ?_));exact trivial;exact rfl)
      have En:=B3.lt
      have El:=Blk.lt
      have Em:=B4.lt
      have Ed:=B2.lt
      have Ek:=B6.lt
      have Ej:=B5.lt
      have Dw:=B0.lt
      have Ec:=B1.lt
      have Je:=Bw.lt
      have nz_1:=hs.size
      refine edgesN (wc.heap.size) _ l w (fun m W=>Bx W (w.heap.size) 32 #[.slice (some ⟨bb,oo,none⟩) l.length C0]∧Bx W (w.heap.size + 1) 28 #[.int .i64 0]∧Bx W (wr.heap.size) 3 #[.int .i64 ((l.length:Int))]∧Bx W (Bz.heap.size) 32 #[.slice (some ⟨bb,oo,none⟩) l.length C0]∧Bx W (W0.heap.size) 3 #[.int .i64 ((k:Int))]∧Bx W (W0.heap.size + 1) 69 #[.int .i64 p.1,.int .i64 p.2,.int .i64 q.1,.int .i64 q.2]∧Bx W (Bl) 24 #[.int .i64 (B7 - p.1),.int .i64 (B8 - p.2)]∧Bx W (C2) 24 #[.int .i64 (q.1 - p.1),.int .i64 (q.2 - p.2)]∧AtB Cg (.loop (Cd .busy none)) W∧AtB C1.heap.size (.deferred (some [])) W∧Kp (C1.heap.size + 2) W0 W∧(∀j,j < m→oz l k j=false)) (fun c W=>c=.ret∧Bx W (w.heap.size + 1) 28 #[.int .i64 20]∧uj l k=true∧Bx W (Bz.heap.size) 32 #[.slice (some ⟨bb,oo,none⟩) l.length C0]∧AtB Cg (.loop (Cd .busy none)) W∧AtB C1.heap.size (.deferred (some [])) W∧Kp (C1.heap.size + 2) W0 W) e1.h rfl rfl HL.out (by omega) hs Bw (fun _=>(.and (.bx _) (.and (.bx _) (.and (.bx _) (.and (.bx _) (.and (.bx _) (.and (.bx _) (.and (.bx _) (.and (.bx _) (.and (.atB (Array.getElem?_eq_some_iff.1 e1.h).1) (.and (.atB (Array.getElem?_eq_some_iff.1 hD.h).1) (.and (.kp B9.1) (.prop _ _))))))))))))) (fun c=>(.and (.prop _ _) (.and (.bx _) (.and (.prop _ _) (.and (.bx _) (.and (.atB (Array.getElem?_eq_some_iff.1 e1.h).1) (.and (.atB (Array.getElem?_eq_some_iff.1 hD.h).1) (.kp B9.1)))))))) ⟨B3,Blk,B4,B2,B6,B5,B0,B1,e1,hD,B9,(fun j hj=>absurd hj (by omega))⟩ ?hbody1 ?hend1 ?hret1
      case hbody1=>
       clear hs Bw B3 Blk B4 B2 B6 B5 B0 B1 e1 hD B9
       intro Cv D5 m W1 RR1 Er Es hk1 Du e1 hs Bw hI Cc
       replace Cc:=ae Cc
       have e2:AtB D5 (.loop (Cv .ready none)) W1:=⟨e1⟩
       clear e1
       obtain⟨B3,Blk,B4,B2,B6,B5,B0,B1,e1,hD,B9,HI⟩:=hI
       skip
       have Bm:=Kp.refl (C6.heap.size + 1) W1
       obtain⟨pc,Ca⟩:∃z:Pt,z=ptZ l m:=⟨_,rfl⟩
       obtain⟨pd,Cb⟩:∃z:Pt,z=nxZ l m:=⟨_,rfl⟩
       rw[←Ca,←Cb]
       replace Ca:=ae Ca
       replace Cb:=ae Cb
       have Cw:WP 1048576 pc:=by rw[Ca.out];exact WP.pt (by decide) HW.out _
       have Cx:WP 1048576 pd:=by rw[Cb.out];exact WP.pt (by decide) HW.out _
       gi_wp2
       repeat ((with_reducible refine And.intro ?_ ?_);exact trivial;gi_wp2)
       generalize hW_:(W1.alloc (.cells #[.int .i64 pc.1,.int .i64 pc.2,.int .i64 pd.1,.int .i64 pd.2] 69))=Bg
       have hW:=hW_.symm
       clear hW_
       have hG:Gr [] W1 Bg:=by rw[hW];exact (Gr.refl _ _).alloc
       have sz_w29:=hs.size
       have np_w29:=B3.lt
       have nk_w29:=Blk.lt
       have nn_w29:=B4.lt
       have K3:=B2.lt
       have ni_w29:=B6.lt
       have ne_w29:=B5.lt
       have Ex:=B0.lt
       have Jz:=B1.lt
       have Jg:=Bw.lt
       have Bu:Bx Bg (W1.heap.size) 69 #[.int .i64 pc.1,.int .i64 pc.2,.int .i64 pd.1,.int .i64 pd.2]:=by rw[hW];exact (Bx.new0 _ _ _)
       replace hs:=hs.trans (hG.below0 hs.size)
       replace e1:=atB _ _ _ e1 (hG.below0 (ag _))
       replace hD:=atB _ _ _ hD (hG.below0 (ag _))
       replace B9:=kpJ _ _ _ B9 (hG.below0 (ag _))
       replace e2:=atB _ _ _ e2 (hG.below0 (ag _))
       replace Bm:=kpJ _ _ _ Bm (hG.below0 (ag _))
       revert Bw B3 Blk B4 B2 B6 B5 B0 B1;refine g0 hG ?_;intro Bw B3 Blk B4 B2 B6 B5 B0 B1
       clear hW hG
       have hz_w29:=Bu.lt
       refine⟨e2.h,?_⟩
       obtain⟨Bf,Bj⟩:∃x,x=Bg.putObj D5 (.loop (Cv .busy none)):=⟨_,rfl⟩
       rw[←Bj]
       have Dv:=hs.size
       replace hs:Below w.heap.size w Bf:=by rw[Bj];exact hs.trans (belowK_b (ag _) _ D5 _ _ (by omega) e2.h rfl rfl)
       replace B3:Bx Bf (w.heap.size) 32 #[.slice (some ⟨bb,oo,none⟩) l.length C0]:=by rw[Bj];exact B3.putL e2.h
       replace Blk:Bx Bf (w.heap.size + 1) 28 #[.int .i64 0]:=by rw[Bj];exact Blk.putL e2.h
       replace B4:Bx Bf (wr.heap.size) 3 #[.int .i64 ((l.length:Int))]:=by rw[Bj];exact B4.putL e2.h
       replace B2:Bx Bf (Bz.heap.size) 32 #[.slice (some ⟨bb,oo,none⟩) l.length C0]:=by rw[Bj];exact B2.putL e2.h
       replace B6:Bx Bf (W0.heap.size) 3 #[.int .i64 ((k:Int))]:=by rw[Bj];exact B6.putL e2.h
       replace B5:Bx Bf (W0.heap.size + 1) 69 #[.int .i64 p.1,.int .i64 p.2,.int .i64 q.1,.int .i64 q.2]:=by rw[Bj];exact B5.putL e2.h
       replace B0:Bx Bf (Bl) 24 #[.int .i64 (B7 - p.1),.int .i64 (B8 - p.2)]:=by rw[Bj];exact B0.putL e2.h
       replace B1:Bx Bf (C2) 24 #[.int .i64 (q.1 - p.1),.int .i64 (q.2 - p.2)]:=by rw[Bj];exact B1.putL e2.h
       replace Bw:Bx Bf (wc.heap.size) 32 #[.slice (some ⟨bb,oo,none⟩) l.length C0]:=by rw[Bj];exact Bw.putL e2.h
       replace Bu:Bx Bf (W1.heap.size) 69 #[.int .i64 pc.1,.int .i64 pc.2,.int .i64 pd.1,.int .i64 pd.2]:=by rw[Bj];exact Bu.putL e2.h
       replace e1:AtB Cg (.loop (Cd .busy none)) Bf:=by rw[Bj];exact⟨(World.putObj_heap_other (by omega)).trans e1.h⟩
       replace hD:AtB C1.heap.size (.deferred (some [])) Bf:=by rw[Bj];exact⟨(World.putObj_heap_other (by omega)).trans hD.h⟩
       replace B9:Kp (C1.heap.size + 2) W0 Bf:=by rw[Bj];exact B9.putL (by have:=B9.1;have:=Bm.1;omega) _
       replace Bm:Kp (C6.heap.size + 1) W1 Bf:=by rw[Bj];exact Bm.putL (by have:=B9.1;have:=Bm.1;omega) _
       replace e2:AtB D5 (.loop (Cv .busy none)) Bf:=by rw[Bj];exact⟨World.putObj_heap_same (Array.getElem?_eq_some_iff.1 e2.h).1⟩
       clear Bj Dv
       have AX15:IntKind.i64.wrap ((k:Int) + 1)=(k:Int) + 1:=IntWalk.i64_in _ (by omega)
       by_cases q16:(k:Int) + 1 < (m:Int)
       ·have q16d:((k:Int) + 1 < (m:Int))=True:=eq_true (by omega)
        by_cases q17:k=0
        ·have q17b:((k:Int) == 0)=true:=beq_iff_eq.2 (by omega)
         have q17n:((k:Int) != 0)=false:=bne_eq_false_iff_eq.2 (by omega)
         have E5:=ae q17
         clear q17
         have AX18:IntKind.i64.wrap ((l.length:Int) - 1)=(l.length:Int) - 1:=IntWalk.i64_in _ (by omega)
         by_cases q19:(m:Int)=(l.length:Int) - 1
         ·have q19b:((m:Int) == (l.length:Int) - 1)=true:=beq_iff_eq.2 (by omega)
          have q19n:((m:Int) != (l.length:Int) - 1)=false:=bne_eq_false_iff_eq.2 (by omega)
          have Cu:=ae q19
          clear q19
          refine B6.k1l fun C8 Li=>?_
          refine B4.k1l fun Cs Ln=>?_
          gi_wp2
          repeat ((with_reducible refine And.intro ?_ ?_);exact trivial;gi_wp2)
          clear C8 Cs Li Ln
          exact Cc.out .normal _ _ ⟨e2.h,hs,Bw,Bm,⟨B3,Blk,B4,B2,B6,B5,B0,B1,e1,hD,B9,upto HI (pair_f2 (by have:=E5.out;omega) (by have:=Cu.out;omega))⟩⟩
         have q19b:((m:Int) == (l.length:Int) - 1)=false:=beq_eq_false_iff_ne.2 (by omega)
         have q19n:((m:Int) != (l.length:Int) - 1)=true:=bne_iff_ne.2 (by omega)
         have Cu:=ae q19
         clear q19
         refine B6.k1l fun C8 Li=>?_
         refine B4.k1l fun Cs Ln=>?_
         refine B5.k4l fun Ck Cl Cm Cn Le=>?_
         refine Bu.k4l fun Co Cp Cq Cr Lf=>?_
         gi_wp2_with fail
         try ((with_reducible refine And.intro ?_ (And.intro ?_ ?_));exact trivial;exact rfl)
         repeat ((with_reducible refine And.intro ?_ ?_);exact trivial;gi_wp2_with fail)
         try ((with_reducible refine And.intro ?_ (And.intro ?_ ?_));exact trivial;exact rfl)
         clear C8 Cs Ck Cl Cm Cn Co Cp Cq Cr Li Ln Le Lf
         with_reducible refine (kb (vi p q pc pd _ ⟨Bp.1.mono (by decide),Bp.2.mono (by decide)⟩ ⟨Bq.1.mono (by decide),Bq.2.mono (by decide)⟩ ⟨Cw.1.mono (by decide),Cw.2.mono (by decide)⟩ ⟨Cx.1.mono (by decide),Cx.2.mono (by decide)⟩)).mono ?_
         rintro e C7 ⟨rfl,hb⟩
         replace hs:=ar hs hb
         revert B3 Blk B4 B2 B6 B5 B0 B1 Bw Bu;refine mo hb ?_;intro B3 Blk B4 B2 B6 B5 B0 B1 Bw Bu
         replace e1:=atB _ _ _ e1 hb
         replace hD:=atB _ _ _ hD hb
         replace B9:=kpJ _ _ _ B9 hb
         replace e2:=atB _ _ _ e2 hb
         replace Bm:=kpJ _ _ _ Bm hb
         clear hb
         obtain⟨b20,De⟩:∃zz:Bool,zz=meZ p q pc pd:=⟨_,rfl⟩
         rw[←De]
         replace De:=ae De
         by_cases q21:meZ p q pc pd=true
         ·obtain rfl:b20=true:=by rw[De.out];exact q21
          have E7:=ae q21
          clear q21
          refine Blk.k1fl fun C9 fk Lk=>?_
          gi_wp2
          repeat ((with_reducible refine And.intro ?_ ?_);exact trivial;gi_wp2)
          clear C9 fk Lk
          generalize hW_:(C7.setCell ⟨w.heap.size + 1,0,none⟩ (.int .i64 20))=w32
          have hW:=hW_.symm
          clear hW_
          have hG:Gr [w.heap.size + 1] C7 w32:=by rw[hW];exact (Gr.refl _ _).set
          have Cf:=hs.size
          have lk:=Blk.lt
          have C4:Bx w32 (w.heap.size + 1) 28 #[.int .i64 20]:=by rw[hW];exact (Bx.set Blk 0 _ rfl)
          replace hs:=hs.trans (hG.d1 hs.size)
          replace e1:=e1.gr hG (az (by have:=B9.1;omega))
          replace hD:=hD.gr hG (az (by have:=B9.1;omega))
          replace B9:=Kp.gr1 B9 hG (by have:=B9.1;omega)
          replace e2:=e2.gr hG (az (by have:=B9.1;have:=Bm.1;omega))
          replace Bm:=Kp.gr1 Bm hG (by have:=B9.1;have:=Bm.1;omega)
          replace B3:=hG.b1 B3
          replace B4:=hG.b1 B4
          replace B2:=hG.b1 B2
          replace B6:=hG.b1 B6
          replace B5:=hG.b1 B5
          replace B0:=hG.b1 B0
          replace B1:=hG.b1 B1
          replace Bw:=hG.b1 Bw
          replace Bu:=hG.b1 Bu
          replace Blk:=C4
          clear C4
          clear hW hG Cf lk
          exact Cc.out .ret _ _ ⟨e2.h,hs,Bw,Bm,⟨rfl,Blk,ve (by omega) (ja8 Hp.out Hq.out Ca.out Cb.out (by omega) (fun h=>by have:=Cu.out;omega) E7.out),B2,e1,hD,B9⟩⟩
         obtain rfl:b20=false:=by rw[De.out];simpa using q21
         have E7:=ae q21
         clear q21
         gi_wp2
         repeat ((with_reducible refine And.intro ?_ ?_);exact trivial;gi_wp2)
         exact Cc.out .normal _ _ ⟨e2.h,hs,Bw,Bm,⟨B3,Blk,B4,B2,B6,B5,B0,B1,e1,hD,B9,upto HI (ja6 Hp.out Hq.out Ca.out Cb.out E7.out)⟩⟩
        have q17b:((k:Int) == 0)=false:=beq_eq_false_iff_ne.2 (by omega)
        have q17n:((k:Int) != 0)=true:=bne_iff_ne.2 (by omega)
        have E5:=ae q17
        clear q17
        refine B6.k1l fun C8 Li=>?_
        refine B5.k4l fun Ck Cl Cm Cn Le=>?_
        refine Bu.k4l fun Co Cp Cq Cr Lf=>?_
        gi_wp2_with fail
        try ((with_reducible refine And.intro ?_ (And.intro ?_ ?_));exact trivial;exact rfl)
        repeat ((with_reducible refine And.intro ?_ ?_);exact trivial;gi_wp2_with fail)
        try ((with_reducible refine And.intro ?_ (And.intro ?_ ?_));exact trivial;exact rfl)
        clear C8 Ck Cl Cm Cn Co Cp Cq Cr Li Le Lf
        with_reducible refine (kb (vi p q pc pd _ ⟨Bp.1.mono (by decide),Bp.2.mono (by decide)⟩ ⟨Bq.1.mono (by decide),Bq.2.mono (by decide)⟩ ⟨Cw.1.mono (by decide),Cw.2.mono (by decide)⟩ ⟨Cx.1.mono (by decide),Cx.2.mono (by decide)⟩)).mono ?_
        rintro e C7 ⟨rfl,hb⟩
        replace hs:=ar hs hb
        revert B3 Blk B4 B2 B6 B5 B0 B1 Bw Bu;refine mo hb ?_;intro B3 Blk B4 B2 B6 B5 B0 B1 Bw Bu
        replace e1:=atB _ _ _ e1 hb
        replace hD:=atB _ _ _ hD hb
        replace B9:=kpJ _ _ _ B9 hb
        replace e2:=atB _ _ _ e2 hb
        replace Bm:=kpJ _ _ _ Bm hb
        clear hb
        obtain⟨b18,Dc⟩:∃zz:Bool,zz=meZ p q pc pd:=⟨_,rfl⟩
        rw[←Dc]
        replace Dc:=ae Dc
        by_cases q19:meZ p q pc pd=true
        ·obtain rfl:b18=true:=by rw[Dc.out];exact q19
         have Cu:=ae q19
         clear q19
         refine Blk.k1fl fun C9 fk Lk=>?_
         gi_wp2
         repeat ((with_reducible refine And.intro ?_ ?_);exact trivial;gi_wp2)
         clear C9 fk Lk
         generalize hW_:(C7.setCell ⟨w.heap.size + 1,0,none⟩ (.int .i64 20))=w32
         have hW:=hW_.symm
         clear hW_
         have hG:Gr [w.heap.size + 1] C7 w32:=by rw[hW];exact (Gr.refl _ _).set
         have Cf:=hs.size
         have lk:=Blk.lt
         have C4:Bx w32 (w.heap.size + 1) 28 #[.int .i64 20]:=by rw[hW];exact (Bx.set Blk 0 _ rfl)
         replace hs:=hs.trans (hG.d1 hs.size)
         replace e1:=e1.gr hG (az (by have:=B9.1;omega))
         replace hD:=hD.gr hG (az (by have:=B9.1;omega))
         replace B9:=Kp.gr1 B9 hG (by have:=B9.1;omega)
         replace e2:=e2.gr hG (az (by have:=B9.1;have:=Bm.1;omega))
         replace Bm:=Kp.gr1 Bm hG (by have:=B9.1;have:=Bm.1;omega)
         replace B3:=hG.b1 B3
         replace B4:=hG.b1 B4
         replace B2:=hG.b1 B2
         replace B6:=hG.b1 B6
         replace B5:=hG.b1 B5
         replace B0:=hG.b1 B0
         replace B1:=hG.b1 B1
         replace Bw:=hG.b1 Bw
         replace Bu:=hG.b1 Bu
         replace Blk:=C4
         clear C4
         clear hW hG Cf lk
         exact Cc.out .ret _ _ ⟨e2.h,hs,Bw,Bm,⟨rfl,Blk,ve (by omega) (ja8 Hp.out Hq.out Ca.out Cb.out (by omega) (fun h=>by have:=E5.out;omega) Cu.out),B2,e1,hD,B9⟩⟩
        obtain rfl:b18=false:=by rw[Dc.out];simpa using q19
        have Cu:=ae q19
        clear q19
        gi_wp2
        repeat ((with_reducible refine And.intro ?_ ?_);exact trivial;gi_wp2)
        exact Cc.out .normal _ _ ⟨e2.h,hs,Bw,Bm,⟨B3,Blk,B4,B2,B6,B5,B0,B1,e1,hD,B9,upto HI (ja6 Hp.out Hq.out Ca.out Cb.out Cu.out)⟩⟩
       have q16d:((k:Int) + 1 < (m:Int))=False:=eq_false (by omega)
       refine B6.k1l fun C8 Li=>?_
       gi_wp2
       repeat ((with_reducible refine And.intro ?_ ?_);exact trivial;gi_wp2)
       clear C8 Li
       exact Cc.out .normal _ _ ⟨e2.h,hs,Bw,Bm,⟨B3,Blk,B4,B2,B6,B5,B0,B1,e1,hD,B9,upto HI (pair_f1 (by omega))⟩⟩
      case hend1=>
       clear hs Bw B3 Blk B4 B2 B6 B5 B0 B1 e1 hD B9
       intro we1 Du hs hI
       obtain⟨B3,Blk,B4,B2,B6,B5,B0,B1,e1,hD,B9,HI⟩:=hI
       skip
       gi_wp2
       repeat ((with_reducible refine And.intro ?_ ?_);exact trivial;gi_wp2)
       exact Dk.out .normal _ _ ⟨e1.h,hs,B2,B9,⟨B3,Blk,B4,upto HB (bad_no HF (fun m hm=>HI m hm))⟩⟩ hD.h
      case hret1=>
       clear hs Bw B3 Blk B4 B2 B6 B5 B0 B1 e1 hD B9
       intro c we Du hs hI
       obtain⟨rfl,Blk,hE',B2,e1,hD,B9⟩:=hI
       gi_wp2
       repeat ((with_reducible refine And.intro ?_ ?_);exact trivial;gi_wp2)
       exact Dk.out .ret _ _ ⟨e1.h,hs,B2,B9,⟨rfl,Blk,chk_bad hn hn2 Ds.out (k:=k) (by omega) hE'⟩⟩ hD.h
    have q12b:(Di == 0)=false:=beq_eq_false_iff_ne.2 (by omega)
    have q12n:(Di != 0)=true:=bne_iff_ne.2 (by omega)
    have E2:=ae q12
    clear q12
    gi_upto_if 62 with (fail)
    repeat ((with_reducible refine And.intro ?_ ?_);exact trivial;gi_upto_if 62 with (fail))
    gi_cut [58,59,60,61,62] from 1000 (fun kf58 kf59 kf60 kf61 kf62 wz=>Below w.heap.size w wz∧Bx wz (w.heap.size) 32 #[.slice (some ⟨bb,oo,none⟩) l.length C0]∧Bx wz (w.heap.size + 1) 28 #[.int .i64 0]∧Bx wz (wr.heap.size) 3 #[.int .i64 ((l.length:Int))]∧Bx wz (Bz.heap.size) 32 #[.slice (some ⟨bb,oo,none⟩) l.length C0]∧Bx wz (W0.heap.size) 3 #[.int .i64 ((k:Int))]∧Bx wz (W0.heap.size + 1) 69 #[.int .i64 p.1,.int .i64 p.2,.int .i64 q.1,.int .i64 q.2]∧Bx wz (Bl) 24 #[.int .i64 (B7 - p.1),.int .i64 (B8 - p.2)]∧Bx wz (C2) 24 #[.int .i64 (q.1 - p.1),.int .i64 (q.2 - p.2)]∧AtB Cg (.loop (Cd .busy none)) wz∧AtB C1.heap.size (.deferred (some [])) wz∧Kp (C1.heap.size + 2) W0 wz∧qm l k=false)
    case first=>
     gi_wp2_with fail
     try ((with_reducible refine And.intro ?_ (And.intro ?_ ?_));exact trivial;exact rfl)
     repeat ((with_reducible refine And.intro ?_ ?_);exact trivial;gi_wp2_with fail)
     try ((with_reducible refine And.intro ?_ (And.intro ?_ ?_));exact trivial;exact rfl)
     gi_meet
     exact⟨hs,B3,Blk,B4,B2,B6,B5,B0,B1,e1,hD,B9,fold_f1 (show ptZ l ((k + l.length - 1) % l.length)=(B7,B8) from by rw[←Df.out];exact Prod.ext Bn.out Bo.out) Hp.out Hq.out (fun h=>E2.out (Cy.out.trans h))⟩
    case rest=>
     clear hs B3 Blk B4 B2 B6 B5 B0 B1 e1 hD B9
     obtain⟨hs,B3,Blk,B4,B2,B6,B5,B0,B1,e1,hD,B9,HF⟩:=hcut
     refine B3.k1l fun Dh Lp=>?_
     gi_wp2_with fail
     try ((with_reducible refine And.intro ?_ (And.intro ?_ ?_));exact trivial;exact rfl)
     repeat ((with_reducible refine And.intro ?_ ?_);exact trivial;gi_wp2_with fail)
     try ((with_reducible refine And.intro ?_ (And.intro ?_ ?_));exact trivial;exact rfl)
     clear Dh Lp
     have Jp:=B3.lt
     have Jl:=Blk.lt
     have Jn:=B4.lt
     have J5:=B2.lt
     have Jj:=B6.lt
     have Jh:=B5.lt
     have Ep:=B0.lt
     have J3:=B1.lt
     with_reducible refine (kb (ph _ _ _ _)).mono ?_
     rintro e C5 ⟨rfl,Bv,hb⟩
     replace hs:=ar hs hb
     revert B3 Blk B4 B2 B6 B5 B0 B1;refine mo hb ?_;intro B3 Blk B4 B2 B6 B5 B0 B1
     replace e1:=atB _ _ _ e1 hb
     replace hD:=atB _ _ _ hD hb
     replace B9:=kpJ _ _ _ B9 hb
     clear hb
     gi_wp2_with fail
     try ((with_reducible refine And.intro ?_ (And.intro ?_ ?_));exact trivial;exact rfl)
     repeat ((with_reducible refine And.intro ?_ ?_);exact trivial;gi_wp2_with fail)
     try ((with_reducible refine And.intro ?_ (And.intro ?_ ?_));exact trivial;exact rfl)
     have En:=B3.lt
     have El:=Blk.lt
     have Em:=B4.lt
     have Ed:=B2.lt
     have Ek:=B6.lt
     have Ej:=B5.lt
     have Dw:=B0.lt
     have Ec:=B1.lt
     have Jd:=Bv.lt
     have nz_1:=hs.size
     refine edgesN (wc.heap.size) _ l w (fun m W=>Bx W (w.heap.size) 32 #[.slice (some ⟨bb,oo,none⟩) l.length C0]∧Bx W (w.heap.size + 1) 28 #[.int .i64 0]∧Bx W (wr.heap.size) 3 #[.int .i64 ((l.length:Int))]∧Bx W (Bz.heap.size) 32 #[.slice (some ⟨bb,oo,none⟩) l.length C0]∧Bx W (W0.heap.size) 3 #[.int .i64 ((k:Int))]∧Bx W (W0.heap.size + 1) 69 #[.int .i64 p.1,.int .i64 p.2,.int .i64 q.1,.int .i64 q.2]∧Bx W (Bl) 24 #[.int .i64 (B7 - p.1),.int .i64 (B8 - p.2)]∧Bx W (C2) 24 #[.int .i64 (q.1 - p.1),.int .i64 (q.2 - p.2)]∧AtB Cg (.loop (Cd .busy none)) W∧AtB C1.heap.size (.deferred (some [])) W∧Kp (C1.heap.size + 2) W0 W∧(∀j,j < m→oz l k j=false)) (fun c W=>c=.ret∧Bx W (w.heap.size + 1) 28 #[.int .i64 20]∧uj l k=true∧Bx W (Bz.heap.size) 32 #[.slice (some ⟨bb,oo,none⟩) l.length C0]∧AtB Cg (.loop (Cd .busy none)) W∧AtB C1.heap.size (.deferred (some [])) W∧Kp (C1.heap.size + 2) W0 W) e1.h rfl rfl HL.out (by omega) hs Bv (fun _=>(.and (.bx _) (.and (.bx _) (.and (.bx _) (.and (.bx _) (.and (.bx _) (.and (.bx _) (.and (.bx _) (.and (.bx _) (.and (.atB (Array.getElem?_eq_some_iff.1 e1.h).1) (.and (.atB (Array.getElem?_eq_some_iff.1 hD.h).1) (.and (.kp B9.1) (.prop _ _))))))))))))) (fun c=>(.and (.prop _ _) (.and (.bx _) (.and (.prop _ _) (.and (.bx _) (.and (.atB (Array.getElem?_eq_some_iff.1 e1.h).1) (.and (.atB (Array.getElem?_eq_some_iff.1 hD.h).1) (.kp B9.1)))))))) ⟨B3,Blk,B4,B2,B6,B5,B0,B1,e1,hD,B9,(fun j hj=>absurd hj (by omega))⟩ ?hbody1 ?hend1 ?hret1
     case hbody1=>
      clear hs Bv B3 Blk B4 B2 B6 B5 B0 B1 e1 hD B9
      intro Cv D5 m W1 RR1 Er Es hk1 Du e1 hs Bv hI Cc
      replace Cc:=ae Cc
      have e2:AtB D5 (.loop (Cv .ready none)) W1:=⟨e1⟩
      clear e1
      obtain⟨B3,Blk,B4,B2,B6,B5,B0,B1,e1,hD,B9,HI⟩:=hI
      skip
      have Bm:=Kp.refl (C5.heap.size + 1) W1
      obtain⟨pc,Ca⟩:∃z:Pt,z=ptZ l m:=⟨_,rfl⟩
      obtain⟨pd,Cb⟩:∃z:Pt,z=nxZ l m:=⟨_,rfl⟩
      rw[←Ca,←Cb]
      replace Ca:=ae Ca
      replace Cb:=ae Cb
      have Cw:WP 1048576 pc:=by rw[Ca.out];exact WP.pt (by decide) HW.out _
      have Cx:WP 1048576 pd:=by rw[Cb.out];exact WP.pt (by decide) HW.out _
      gi_wp2
      repeat ((with_reducible refine And.intro ?_ ?_);exact trivial;gi_wp2)
      generalize hW_:(W1.alloc (.cells #[.int .i64 pc.1,.int .i64 pc.2,.int .i64 pd.1,.int .i64 pd.2] 69))=C6
      have hW:=hW_.symm
      clear hW_
      have hG:Gr [] W1 C6:=by rw[hW];exact (Gr.refl _ _).alloc
      have sz_w28:=hs.size
      have np_w28:=B3.lt
      have nk_w28:=Blk.lt
      have nn_w28:=B4.lt
      have K2:=B2.lt
      have ni_w28:=B6.lt
      have ne_w28:=B5.lt
      have Ew:=B0.lt
      have Jy:=B1.lt
      have Jf:=Bv.lt
      have Bu:Bx C6 (W1.heap.size) 69 #[.int .i64 pc.1,.int .i64 pc.2,.int .i64 pd.1,.int .i64 pd.2]:=by rw[hW];exact (Bx.new0 _ _ _)
      replace hs:=hs.trans (hG.below0 hs.size)
      replace e1:=atB _ _ _ e1 (hG.below0 (ag _))
      replace hD:=atB _ _ _ hD (hG.below0 (ag _))
      replace B9:=kpJ _ _ _ B9 (hG.below0 (ag _))
      replace e2:=atB _ _ _ e2 (hG.below0 (ag _))
      replace Bm:=kpJ _ _ _ Bm (hG.below0 (ag _))
      revert Bv B3 Blk B4 B2 B6 B5 B0 B1;refine g0 hG ?_;intro Bv B3 Blk B4 B2 B6 B5 B0 B1
      clear hW hG
      have hz_w28:=Bu.lt
      refine⟨e2.h,?_⟩
      obtain⟨Bg,Bj⟩:∃x,x=C6.putObj D5 (.loop (Cv .busy none)):=⟨_,rfl⟩
      rw[←Bj]
      have Dv:=hs.size
      replace hs:Below w.heap.size w Bg:=by rw[Bj];exact hs.trans (belowK_b (ag _) _ D5 _ _ (by omega) e2.h rfl rfl)
      replace B3:Bx Bg (w.heap.size) 32 #[.slice (some ⟨bb,oo,none⟩) l.length C0]:=by rw[Bj];exact B3.putL e2.h
      replace Blk:Bx Bg (w.heap.size + 1) 28 #[.int .i64 0]:=by rw[Bj];exact Blk.putL e2.h
      replace B4:Bx Bg (wr.heap.size) 3 #[.int .i64 ((l.length:Int))]:=by rw[Bj];exact B4.putL e2.h
      replace B2:Bx Bg (Bz.heap.size) 32 #[.slice (some ⟨bb,oo,none⟩) l.length C0]:=by rw[Bj];exact B2.putL e2.h
      replace B6:Bx Bg (W0.heap.size) 3 #[.int .i64 ((k:Int))]:=by rw[Bj];exact B6.putL e2.h
      replace B5:Bx Bg (W0.heap.size + 1) 69 #[.int .i64 p.1,.int .i64 p.2,.int .i64 q.1,.int .i64 q.2]:=by rw[Bj];exact B5.putL e2.h
      replace B0:Bx Bg (Bl) 24 #[.int .i64 (B7 - p.1),.int .i64 (B8 - p.2)]:=by rw[Bj];exact B0.putL e2.h
      replace B1:Bx Bg (C2) 24 #[.int .i64 (q.1 - p.1),.int .i64 (q.2 - p.2)]:=by rw[Bj];exact B1.putL e2.h
      replace Bv:Bx Bg (wc.heap.size) 32 #[.slice (some ⟨bb,oo,none⟩) l.length C0]:=by rw[Bj];exact Bv.putL e2.h
      replace Bu:Bx Bg (W1.heap.size) 69 #[.int .i64 pc.1,.int .i64 pc.2,.int .i64 pd.1,.int .i64 pd.2]:=by rw[Bj];exact Bu.putL e2.h
      replace e1:AtB Cg (.loop (Cd .busy none)) Bg:=by rw[Bj];exact⟨(World.putObj_heap_other (by omega)).trans e1.h⟩
      replace hD:AtB C1.heap.size (.deferred (some [])) Bg:=by rw[Bj];exact⟨(World.putObj_heap_other (by omega)).trans hD.h⟩
      replace B9:Kp (C1.heap.size + 2) W0 Bg:=by rw[Bj];exact B9.putL (by have:=B9.1;have:=Bm.1;omega) _
      replace Bm:Kp (C5.heap.size + 1) W1 Bg:=by rw[Bj];exact Bm.putL (by have:=B9.1;have:=Bm.1;omega) _
      replace e2:AtB D5 (.loop (Cv .busy none)) Bg:=by rw[Bj];exact⟨World.putObj_heap_same (Array.getElem?_eq_some_iff.1 e2.h).1⟩
      clear Bj Dv
      have AX14:IntKind.i64.wrap ((k:Int) + 1)=(k:Int) + 1:=IntWalk.i64_in _ (by omega)
      by_cases q15:(k:Int) + 1 < (m:Int)
      ·have q15d:((k:Int) + 1 < (m:Int))=True:=eq_true (by omega)
       by_cases q16:k=0
       ·have q16b:((k:Int) == 0)=true:=beq_iff_eq.2 (by omega)
        have q16n:((k:Int) != 0)=false:=bne_eq_false_iff_eq.2 (by omega)
        have E4:=ae q16
        clear q16
        have AX17:IntKind.i64.wrap ((l.length:Int) - 1)=(l.length:Int) - 1:=IntWalk.i64_in _ (by omega)
        by_cases q18:(m:Int)=(l.length:Int) - 1
        ·have q18b:((m:Int) == (l.length:Int) - 1)=true:=beq_iff_eq.2 (by omega)
         have q18n:((m:Int) != (l.length:Int) - 1)=false:=bne_eq_false_iff_eq.2 (by omega)
         have Ct:=ae q18
         clear q18
         refine B6.k1l fun C8 Li=>?_
         refine B4.k1l fun Cs Ln=>?_
         gi_wp2
         repeat ((with_reducible refine And.intro ?_ ?_);exact trivial;gi_wp2)
         clear C8 Cs Li Ln
         exact Cc.out .normal _ _ ⟨e2.h,hs,Bv,Bm,⟨B3,Blk,B4,B2,B6,B5,B0,B1,e1,hD,B9,upto HI (pair_f2 (by have:=E4.out;omega) (by have:=Ct.out;omega))⟩⟩
        have q18b:((m:Int) == (l.length:Int) - 1)=false:=beq_eq_false_iff_ne.2 (by omega)
        have q18n:((m:Int) != (l.length:Int) - 1)=true:=bne_iff_ne.2 (by omega)
        have Ct:=ae q18
        clear q18
        refine B6.k1l fun C8 Li=>?_
        refine B4.k1l fun Cs Ln=>?_
        refine B5.k4l fun Ck Cl Cm Cn Le=>?_
        refine Bu.k4l fun Co Cp Cq Cr Lf=>?_
        gi_wp2_with fail
        try ((with_reducible refine And.intro ?_ (And.intro ?_ ?_));exact trivial;exact rfl)
        repeat ((with_reducible refine And.intro ?_ ?_);exact trivial;gi_wp2_with fail)
        try ((with_reducible refine And.intro ?_ (And.intro ?_ ?_));exact trivial;exact rfl)
        clear C8 Cs Ck Cl Cm Cn Co Cp Cq Cr Li Ln Le Lf
        with_reducible refine (kb (vi p q pc pd _ ⟨Bp.1.mono (by decide),Bp.2.mono (by decide)⟩ ⟨Bq.1.mono (by decide),Bq.2.mono (by decide)⟩ ⟨Cw.1.mono (by decide),Cw.2.mono (by decide)⟩ ⟨Cx.1.mono (by decide),Cx.2.mono (by decide)⟩)).mono ?_
        rintro e Bf ⟨rfl,hb⟩
        replace hs:=ar hs hb
        revert B3 Blk B4 B2 B6 B5 B0 B1 Bv Bu;refine mo hb ?_;intro B3 Blk B4 B2 B6 B5 B0 B1 Bv Bu
        replace e1:=atB _ _ _ e1 hb
        replace hD:=atB _ _ _ hD hb
        replace B9:=kpJ _ _ _ B9 hb
        replace e2:=atB _ _ _ e2 hb
        replace Bm:=kpJ _ _ _ Bm hb
        clear hb
        obtain⟨b19,Dd⟩:∃zz:Bool,zz=meZ p q pc pd:=⟨_,rfl⟩
        rw[←Dd]
        replace Dd:=ae Dd
        by_cases q20:meZ p q pc pd=true
        ·obtain rfl:b19=true:=by rw[Dd.out];exact q20
         have E6:=ae q20
         clear q20
         refine Blk.k1fl fun C9 fk Lk=>?_
         gi_wp2
         repeat ((with_reducible refine And.intro ?_ ?_);exact trivial;gi_wp2)
         clear C9 fk Lk
         generalize hW_:(Bf.setCell ⟨w.heap.size + 1,0,none⟩ (.int .i64 20))=C7
         have hW:=hW_.symm
         clear hW_
         have hG:Gr [w.heap.size + 1] Bf C7:=by rw[hW];exact (Gr.refl _ _).set
         have Cf:=hs.size
         have lk:=Blk.lt
         have C4:Bx C7 (w.heap.size + 1) 28 #[.int .i64 20]:=by rw[hW];exact (Bx.set Blk 0 _ rfl)
         replace hs:=hs.trans (hG.d1 hs.size)
         replace e1:=e1.gr hG (az (by have:=B9.1;omega))
         replace hD:=hD.gr hG (az (by have:=B9.1;omega))
         replace B9:=Kp.gr1 B9 hG (by have:=B9.1;omega)
         replace e2:=e2.gr hG (az (by have:=B9.1;have:=Bm.1;omega))
         replace Bm:=Kp.gr1 Bm hG (by have:=B9.1;have:=Bm.1;omega)
         replace B3:=hG.b1 B3
         replace B4:=hG.b1 B4
         replace B2:=hG.b1 B2
         replace B6:=hG.b1 B6
         replace B5:=hG.b1 B5
         replace B0:=hG.b1 B0
         replace B1:=hG.b1 B1
         replace Bv:=hG.b1 Bv
         replace Bu:=hG.b1 Bu
         replace Blk:=C4
         clear C4
         clear hW hG Cf lk
         exact Cc.out .ret _ _ ⟨e2.h,hs,Bv,Bm,⟨rfl,Blk,ve (by omega) (ja8 Hp.out Hq.out Ca.out Cb.out (by omega) (fun h=>by have:=Ct.out;omega) E6.out),B2,e1,hD,B9⟩⟩
        obtain rfl:b19=false:=by rw[Dd.out];simpa using q20
        have E6:=ae q20
        clear q20
        gi_wp2
        repeat ((with_reducible refine And.intro ?_ ?_);exact trivial;gi_wp2)
        exact Cc.out .normal _ _ ⟨e2.h,hs,Bv,Bm,⟨B3,Blk,B4,B2,B6,B5,B0,B1,e1,hD,B9,upto HI (ja6 Hp.out Hq.out Ca.out Cb.out E6.out)⟩⟩
       have q16b:((k:Int) == 0)=false:=beq_eq_false_iff_ne.2 (by omega)
       have q16n:((k:Int) != 0)=true:=bne_iff_ne.2 (by omega)
       have E4:=ae q16
       clear q16
       refine B6.k1l fun C8 Li=>?_
       refine B5.k4l fun Ck Cl Cm Cn Le=>?_
       refine Bu.k4l fun Co Cp Cq Cr Lf=>?_
       gi_wp2_with fail
       try ((with_reducible refine And.intro ?_ (And.intro ?_ ?_));exact trivial;exact rfl)
       repeat ((with_reducible refine And.intro ?_ ?_);exact trivial;gi_wp2_with fail)
       try ((with_reducible refine And.intro ?_ (And.intro ?_ ?_));exact trivial;exact rfl)
       clear C8 Ck Cl Cm Cn Co Cp Cq Cr Li Le Lf
       with_reducible refine (kb (vi p q pc pd _ ⟨Bp.1.mono (by decide),Bp.2.mono (by decide)⟩ ⟨Bq.1.mono (by decide),Bq.2.mono (by decide)⟩ ⟨Cw.1.mono (by decide),Cw.2.mono (by decide)⟩ ⟨Cx.1.mono (by decide),Cx.2.mono (by decide)⟩)).mono ?_
       rintro e Bf ⟨rfl,hb⟩
       replace hs:=ar hs hb
       revert B3 Blk B4 B2 B6 B5 B0 B1 Bv Bu;refine mo hb ?_;intro B3 Blk B4 B2 B6 B5 B0 B1 Bv Bu
       replace e1:=atB _ _ _ e1 hb
       replace hD:=atB _ _ _ hD hb
       replace B9:=kpJ _ _ _ B9 hb
       replace e2:=atB _ _ _ e2 hb
       replace Bm:=kpJ _ _ _ Bm hb
       clear hb
       obtain⟨b17,Db⟩:∃zz:Bool,zz=meZ p q pc pd:=⟨_,rfl⟩
       rw[←Db]
       replace Db:=ae Db
       by_cases q18:meZ p q pc pd=true
       ·obtain rfl:b17=true:=by rw[Db.out];exact q18
        have Ct:=ae q18
        clear q18
        refine Blk.k1fl fun C9 fk Lk=>?_
        gi_wp2
        repeat ((with_reducible refine And.intro ?_ ?_);exact trivial;gi_wp2)
        clear C9 fk Lk
        generalize hW_:(Bf.setCell ⟨w.heap.size + 1,0,none⟩ (.int .i64 20))=C7
        have hW:=hW_.symm
        clear hW_
        have hG:Gr [w.heap.size + 1] Bf C7:=by rw[hW];exact (Gr.refl _ _).set
        have Cf:=hs.size
        have lk:=Blk.lt
        have C4:Bx C7 (w.heap.size + 1) 28 #[.int .i64 20]:=by rw[hW];exact (Bx.set Blk 0 _ rfl)
        replace hs:=hs.trans (hG.d1 hs.size)
        replace e1:=e1.gr hG (az (by have:=B9.1;omega))
        replace hD:=hD.gr hG (az (by have:=B9.1;omega))
        replace B9:=Kp.gr1 B9 hG (by have:=B9.1;omega)
        replace e2:=e2.gr hG (az (by have:=B9.1;have:=Bm.1;omega))
        replace Bm:=Kp.gr1 Bm hG (by have:=B9.1;have:=Bm.1;omega)
        replace B3:=hG.b1 B3
        replace B4:=hG.b1 B4
        replace B2:=hG.b1 B2
        replace B6:=hG.b1 B6
        replace B5:=hG.b1 B5
        replace B0:=hG.b1 B0
        replace B1:=hG.b1 B1
        replace Bv:=hG.b1 Bv
        replace Bu:=hG.b1 Bu
        replace Blk:=C4
        clear C4
        clear hW hG Cf lk
        exact Cc.out .ret _ _ ⟨e2.h,hs,Bv,Bm,⟨rfl,Blk,ve (by omega) (ja8 Hp.out Hq.out Ca.out Cb.out (by omega) (fun h=>by have:=E4.out;omega) Ct.out),B2,e1,hD,B9⟩⟩
       obtain rfl:b17=false:=by rw[Db.out];simpa using q18
       have Ct:=ae q18
       clear q18
       gi_wp2
       repeat ((with_reducible refine And.intro ?_ ?_);exact trivial;gi_wp2)
       exact Cc.out .normal _ _ ⟨e2.h,hs,Bv,Bm,⟨B3,Blk,B4,B2,B6,B5,B0,B1,e1,hD,B9,upto HI (ja6 Hp.out Hq.out Ca.out Cb.out Ct.out)⟩⟩
      have q15d:((k:Int) + 1 < (m:Int))=False:=eq_false (by omega)
      refine B6.k1l fun C8 Li=>?_
      gi_wp2
      repeat ((with_reducible refine And.intro ?_ ?_);exact trivial;gi_wp2)
      clear C8 Li
      exact Cc.out .normal _ _ ⟨e2.h,hs,Bv,Bm,⟨B3,Blk,B4,B2,B6,B5,B0,B1,e1,hD,B9,upto HI (pair_f1 (by omega))⟩⟩
     case hend1=>
      clear hs Bv B3 Blk B4 B2 B6 B5 B0 B1 e1 hD B9
      intro we1 Du hs hI
      obtain⟨B3,Blk,B4,B2,B6,B5,B0,B1,e1,hD,B9,HI⟩:=hI
      skip
      gi_wp2
      repeat ((with_reducible refine And.intro ?_ ?_);exact trivial;gi_wp2)
      exact Dk.out .normal _ _ ⟨e1.h,hs,B2,B9,⟨B3,Blk,B4,upto HB (bad_no HF (fun m hm=>HI m hm))⟩⟩ hD.h
     case hret1=>
      clear hs Bv B3 Blk B4 B2 B6 B5 B0 B1 e1 hD B9
      intro c we Du hs hI
      obtain⟨rfl,Blk,hE',B2,e1,hD,B9⟩:=hI
      gi_wp2
      repeat ((with_reducible refine And.intro ?_ ?_);exact trivial;gi_wp2)
      exact Dk.out .ret _ _ ⟨e1.h,hs,B2,B9,⟨rfl,Blk,chk_bad hn hn2 Ds.out (k:=k) (by omega) hE'⟩⟩ hD.h
  case hend0=>
   clear hs B2 B3 Blk B4
   intro D Dl hDe hn0 Ce hs hI
   replace Ce:AtB D (.deferred (some [])) Dl:=⟨Ce⟩
   obtain⟨B3,Blk,B4,HB⟩:=hI
   skip
   refine Blk.k1fl fun C9 fk Lk=>?_
   go_wp2
   clear C9 fk Lk
   generalize hW_:(Dl.setCell ⟨w.heap.size + 1,0,none⟩ (.int .i64 0))=w24
   have hW:=hW_.symm
   clear hW_
   have hG:Gr [w.heap.size + 1] Dl w24:=by rw[hW];exact (Gr.refl _ _).set
   have Cf:=hs.size
   have lk:=Blk.lt
   have C4:Bx w24 (w.heap.size + 1) 28 #[.int .i64 0]:=by rw[hW];exact (Bx.set Blk 0 _ rfl)
   replace hs:=hs.trans (hG.d1 hs.size)
   replace Ce:=Ce.gr hG (az (by omega))
   replace B3:=hG.b1 B3
   replace B4:=hG.b1 B4
   replace Blk:=C4
   clear C4
   clear hW hG Cf lk
   have D2:=(Blk.putD (o':=.deferred none) Ce.h).at 0 rfl
   refine⟨by simp,.inl ⟨_,_,rfl,run_takeDeferred Ce.h,?_⟩⟩
   refine⟨_,by simp[results,Tryz.results8,go_sem,D2];rfl,⟨by rw[chk_good hn hn2 Ds.out (fun j hj=>HB j hj)],hs.trans (belowK_b (ag _) _ D _ _ (by omega) Ce.h rfl rfl)⟩⟩
  case hret0=>
   clear hs B2 B3 Blk B4
   intro c D we hDe hn0 Ce hs hI
   obtain⟨rfl,Blk,hE⟩:=hI
   replace Ce:AtB D (.deferred (some [])) we:=⟨Ce⟩
   go_wp2
   have D2:=(Blk.putD (o':=.deferred none) Ce.h).at 0 rfl
   refine⟨by simp,.inl ⟨_,_,rfl,run_takeDeferred Ce.h,?_⟩⟩
   refine⟨_,by simp[results,Tryz.results8,go_sem,D2];rfl,⟨by rw[hE],hs.trans (belowK_b (ag _) _ D _ _ (by omega) Ce.h rfl rfl)⟩⟩
end Go.Proofs.YtidmjdmmpajooaaGreat
