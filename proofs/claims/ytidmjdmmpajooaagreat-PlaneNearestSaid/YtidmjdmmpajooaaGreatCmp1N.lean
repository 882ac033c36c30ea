/-
  slices.CompactFunc at an own slice of fractions, by Ratio.Same.
-/
import Derived.Test.YtidmjdmmpajooaaGreatPkV29N
import Derived.Test.YtidmjdmmpajooaaGreatPlHN
import Derived.Test.YtidmjdmmpajooaaGreatPkV31N
import Derived.Lib.SliceRun
import Derived.Lib.SlBuf
set_option linter.unusedSimpArgs false
set_option linter.unusedVariables false
set_option maxRecDepth 100000
set_option maxHeartbeats 16000000
namespace Go.Proofs.YtidmjdmmpajooaaGreat
open Go.RowKit Dg
attribute [local go_sem ↓] Go.wp_at_zero Go.wp_at_succ
def zr3 (n:Nat):List Value:=(Builtin.zeroCells #[.bool false,.slice none 0 0,.slice none 0 0] n).toList
theorem zr3_len (n:Nat):(zr3 n).length=n * 3:=by simp[zr3,Builtin.zeroCells]
theorem zr3_one (n:Nat):∀v∈zr3 n,v.oneCell'=true:=by
 intro v hv
 unfold zr3 Builtin.zeroCells at hv
 rw[Array.toList_map,List.mem_map] at hv
 obtain⟨i,_,rfl⟩:=hv
 have h3:i % 3 < 3:=Nat.mod_lt _ (by decide)
 show Value.oneCell' (#[Value.bool false,.slice none 0 0,.slice none 0 0][i % 3]!)=true
 match hi:i % 3,h3 with
 | 0,_=>rfl
 | 1,_=>rfl
 | 2,_=>rfl
theorem run_clear3 {P:Program} (w:World) (t e ty:TypeId) (ht:P.underlying t=some (.slice e)) (hv:∀w,(zeroValue e).run P w=.ok (.agg #[.bool false,.slice none 0 0,.slice none 0 0]) w) (b o n c:Nat) (hn:0 < n)
  (hc:∀j,j < n * 3→(w.cell? ⟨b,o + j,none⟩).isSome=true) (hf:∀j,j < n * 3→w.frozen? ⟨b,o + j,none⟩=false):
  (Builtin.clear_ #[t] ty #[.slice (some ⟨b,o,none⟩) n c]).run P w=.ok (.tuple #[]) (w.setCells b o (zr3 n)):=by
 have hst:=run_storeCells_cells (P:=P) b o (zr3 n) 0 w (by rw[zr3_len];simpa using hc) (by rw[zr3_len];simpa using hf) (zr3_one n)
 simp only[Nat.add_zero] at hst
 have hzc:(Builtin.zeroCells (Value.agg #[.bool false,.slice none 0 0,.slice none 0 0]).cells n).toList=zr3 n:=rfl
 obtain⟨m,rfl⟩:∃m,n=m + 1:=⟨n - 1,by omega⟩
 simp only[Builtin.clear_]
 simp[run_underlying ht,hv,hzc,hst]
theorem jd2 {g:Nat}:∀(vs:List Value) (o:Nat) {a w:World},Gr [g] a w→Gr [g] a (w.setCells g o vs)
 | [],_,_,_,h=>h
 | _ ::r,o,_,_,h=>jd2 r (o + 1) h.set
theorem bx_cells {g:Nat} {T:TypeId}:∀(vs:List Value) (o:Nat) {w:World} {cs:Array Value},Bx w g T cs→∃Bt:Array Value,Bx (w.setCells g o vs) g T Bt∧Bt.size=cs.size∧Bt.toList.take o=cs.toList.take o
 | [],_,_,cs,h=>⟨cs,h,rfl,rfl⟩
 | v ::r,o,w,cs,h=>by
  obtain⟨Bt,h1,h2,h3⟩:=bx_cells r (o + 1) (h.set o v rfl)
  refine⟨Bt,h1,h2.trans (by simp),?_⟩
  have:=congrArg (List.take o) h3
  rw[List.take_take,List.take_take,Nat.min_eq_left (by omega),Array.toList_setIfInBounds,List.take_set_of_le (by omega)] at this
  exact this
theorem gi.cells {α:Type} {base size:Nat} {T:TypeId} {R:World→List Value→α→Prop} {w:World} {g B1:Nat} {l:List α} (hR:ir R) (h:gi base T size R B1 w g l) (hT:T≠95∧T≠152) {c:Nat} (hc:c≤l.length) (vs:List Value):cw base T size R (w.setCells g (c * size) vs) (.slice (some ⟨g,0,none⟩) c B1) (l.take c):=by
 have hk:aw w (w.setCells g (c * size) vs):=(jd2 vs _ (Gr.refl [g] w)).keep ⟨⟨T,h.ty,hT⟩,True.intro⟩
 obtain⟨css,h1,h2,h3,h4,h5⟩:=h.take hc
 have hlc:(l.take c).length=c:=by rw[List.length_take];omega
 refine⟨css,h1,h2,fun i cs x a b=>hR _ _ _ _ (h3 i cs x a b) hk,h4,?_⟩
 rcases h5 with ⟨e,h5⟩|⟨g',cap',cur,hv,hb,hB,p1,p2,p3,p4⟩
 ·cases e
 injection hv with a1 a2 a3
 injection a1 with a1
 injection a1 with a1 _
 subst a1 a3
 obtain⟨cur',q1,q2,q3⟩:=bx_cells vs (c * size) hB
 refine .inr ⟨g,B1,cur',by rw[←a2],hb,q1,p1,p2,q2.trans p3,?_⟩
 rw[hlc] at p4 ⊢
 rw[q3,p4]
theorem gi.cell_ok {base:Nat} {T:TypeId} {R:World→List Value→Rat→Prop} {w:World} {g B1:Nat} {l:List Rat} (h:gi base T 3 R B1 w g l) {j:Nat} (hj:j < l.length * 3):(w.cell? ⟨g,j,none⟩).isSome=true:=by
 obtain⟨cs,h1,_,h2⟩:=h.cell (ia (show j / 3 < l.length by omega))
 have h3:j % 3 < cs.length:=by rw[h1];exact Nat.mod_lt _ (by decide)
 have h4:=h2 (j % 3) _ (List.getElem?_eq_getElem h3)
 rw[show j / 3 * 3 + j % 3=j by omega] at h4
 rw[h4];rfl
theorem zero_ratio (w:World):(zeroValue 37).run Tryz.prog w=.ok (.agg #[.bool false,.slice none 0 0,.slice none 0 0]) w:=by kernel_rfl
def cmS (L:List Rat) (k:Nat):Nat→List Rat × Nat
 | 0=>(L,k)
 | m + 1=>if bj L (k + (m + 1))=bj L (k + m) then cmS L k m else ((cmS L k m).1.set (cmS L k m).2 (bj L (k + (m + 1))),(cmS L k m).2 + 1)
theorem cm_yes {L:List Rat} {k m:Nat} (h1:1≤m) (h:bj L (k + m)=bj L (k + (m - 1))):cmS L k (m + 1 - 1)=cmS L k (m - 1):=by
 obtain⟨m,rfl⟩:∃z,m=z + 1:=⟨m - 1,by omega⟩
 exact if_pos h
theorem cm_no {L:List Rat} {k m:Nat} (h1:1≤m) (h:¬ bj L (k + m)=bj L (k + (m - 1))):cmS L k (m + 1 - 1)=((cmS L k (m - 1)).1.set (cmS L k (m - 1)).2 (bj L (k + m)),(cmS L k (m - 1)).2 + 1):=by
 obtain⟨m,rfl⟩:∃z,m=z + 1:=⟨m - 1,by omega⟩
 exact if_neg h
theorem gi.capL {α:Type} {base size:Nat} {T:TypeId} {R:World→List Value→α→Prop} {w:World} {g B1:Nat} {l:List α} (h:gi base T size R B1 w g l):l.length≤B1:=by obtain⟨_,_,_,_,_,_,_,a,_⟩:=h.bx;exact a
theorem gi.capM {α:Type} {base size:Nat} {T:TypeId} {R:World→List Value→α→Prop} {w:World} {g B1:Nat} {l:List α} (h:gi base T size R B1 w g l):B1≤maxLen:=by obtain⟨_,_,_,_,_,_,_,_,a,_⟩:=h.bx;exact a
theorem gi.rebase {α:Type} {base base' size:Nat} {T:TypeId} {R:World→List Value→α→Prop} {w:World} {g B1:Nat} {l:List α} (h:gi base T size R B1 w g l) (hb:base'≤base):gi base' T size R B1 w g l:=by
 obtain⟨css,hT1,h2,h3,e1,e2⟩:=h
 refine⟨css,hT1,h2,h3,e1,?_⟩
 rcases e2 with h|⟨g,B1,cur,hv,hb',hr⟩
 ·exact .inl h
 exact .inr ⟨g,B1,cur,hv,by omega,hr⟩
theorem szB (n:Nat) (w w':World) (h:n≤w.heap.size) (hb:Below w.heap.size w w'):n≤w'.heap.size:=Nat.le_trans h hb.size
theorem cm_fin {base:Nat} {w wk W:World} (h1:wk.heap.size≤base) (h2:base≤wk.heap.size) (a:Below wk.heap.size wk w) (b:Below wk.heap.size wk W) (h:w.heap.size≤W.heap.size):Below base w W:=
 ⟨b.os.trans a.os.symm,b.tape.trans a.tape.symm,b.output.trans a.output.symm,h,fun k hk=>(b.block k (by omega)).trans (a.block k (by omega)).symm⟩
theorem sl_CompQ2 {base g B1:Nat} {L:List Rat} (w:World) (h:gi base 37 3 PC B1 w g L) (hb:base≤w.heap.size) (h1:2≤L.length) (h2:L.length≤1000):
  Calls Tryz.prog 124 #[.slice (some ⟨g,0,none⟩) L.length B1,.func (.func 125) #[] #[]] w (fun e w'=>∃v',e=.returned v'∧Rows 3 37 PC w' v' (cpQ L)∧Below base w w'):=by
 obtain⟨wk,hk1,hk2,hs⟩:=jc4 base w hb
 have HS0:=ae hs
 have hcL:=h.capL
 have hcM:=h.capM
 have Vs:gi wk.heap.size 37 3 PC B1 w g L:=h.rebase hk1
 have hlow:wk.heap.size≤g:=Vs.low
 have hz:=ag w.heap.size
 clear h
 go_enter Tryz.func124,Tryz.ntmps124
 have q1:¬ (L.length < 2):=(by omega)
 have q1d:((L.length:Int) < 2)=False:=eq_false (by omega)
 go_wp2
 go_loopw [5] (fun s5 wq=>∃k:Nat,1≤k∧k≤L.length∧s5=.int .i64 k∧Below wk.heap.size wk wq∧w.heap.size≤wq.heap.size∧gi wk.heap.size 37 3 PC B1 wq (g) L∧(∀j,1≤j→j < k→¬ bj L j=bj L (j - 1))) (fun s5 _=>L.length - (intOf s5).toNat)
 case atStart=>exact⟨1,ag _,(by omega),rfl,hs,hz,Vs,(fun j a b=>absurd b (by omega))⟩
 case round=>
  clear hz Vs hs
  obtain⟨k,Ba,k_le,rfl,hs,hz,Vs,Bl⟩:=hrel
  obtain⟨wl0,hwo⟩:∃x,x=wr:=⟨_,rfl⟩
  subst hwo
  replace Bl:=ae Bl
  by_cases q2:k < L.length
  ·have q2d:((k:Int) < (L.length:Int))=True:=eq_true (by omega)
   go_upto_region 6 with fail
   have BI3a:k < L.length:=by omega
   have BI3b:((k:Int):Int) < (L.length:Int):=by omega
   obtain⟨ge4,ae4,ne4,ce4,Ae4,Ne4,De4,Bf,Bg,Bh,B2,le4⟩:=uc Vs (show k < L.length by omega)
   have SW5a:=IntWalk.i64_in ((k:Int) - 1) (by omega)
   have SW5b:(0:Int)≤(k:Int) - 1:=by omega
   have SW5c:((k:Int) - 1).toNat=(k - 1):=by omega
   have SW5d:(k:Int) - 1 < (L.length:Int):=by omega
   have SW5e:(1:Int)≤(k:Int):=by omega
   have SW5f:(k:Int) < (L.length:Int) + 1:=by omega
   have BI6a:(k - 1) < L.length:=by omega
   have BI6b:((k:Int) - 1:Int) < (L.length:Int):=by omega
   obtain⟨ge7,ae7,ne7,ce7,Ae7,Ne7,De7,Bi,Bj,Bk,B3,le7⟩:=uc Vs (show (k - 1) < L.length by omega)
   obtain⟨b8,Bs⟩:∃zz:Bool,zz=decide (bj L k=bj L (k - 1)):=⟨_,rfl⟩
   replace Bs:=ae Bs
   refine bw (S:=fun w'=>w'.cell? ⟨g,k * 3,none⟩=some (.bool ge4)∧w'.cell? ⟨g,k * 3 + 1,none⟩=some (.slice ae4 ne4 ce4)∧w'.cell? ⟨g,k * 3 + 2,none⟩=some (.slice Ae4 Ne4 De4)∧w'.cell? ⟨g,(k - 1) * 3,none⟩=some (.bool ge7)∧w'.cell? ⟨g,(k - 1) * 3 + 1,none⟩=some (.slice ae7 ne7 ce7)∧w'.cell? ⟨g,(k - 1) * 3 + 2,none⟩=some (.slice Ae7 Ne7 De7)) (by kernel_rfl) 11 ?_
   refine cq.abs ?_
   intro Bo hW
   have hb:Below wl0.heap.size wl0 Bo:=by rw[hW];exact de _
   replace hs:=ar hs hb
   revert B2 B3;refine mo hb ?_;intro B2 B3
   replace hz:=szB _ _ _ hz hb
   replace Vs:=gi.mono PC.kept Vs hb
   replace Bf:=ah Bf hb
   replace Bg:=ah Bg hb
   replace Bh:=ah Bh hb
   replace Bi:=ah Bi hb
   replace Bj:=ah Bj hb
   replace Bk:=ah Bk hb
   clear hb hW
   have hH:=(show Bo.cell? ⟨g,k * 3,none⟩=some (.bool ge4)∧Bo.cell? ⟨g,k * 3 + 1,none⟩=some (.slice ae4 ne4 ce4)∧Bo.cell? ⟨g,k * 3 + 2,none⟩=some (.slice Ae4 Ne4 De4)∧Bo.cell? ⟨g,(k - 1) * 3,none⟩=some (.bool ge7)∧Bo.cell? ⟨g,(k - 1) * 3 + 1,none⟩=some (.slice ae7 ne7 ce7)∧Bo.cell? ⟨g,(k - 1) * 3 + 2,none⟩=some (.slice Ae7 Ne7 De7) from ⟨Bf,Bg,Bh,Bi,Bj,Bk⟩)
   refine U_tq 0 18 hH ?_
   refine U_tq 1 19 hH ?_
   refine U_tq 2 20 hH ?_
   refine U_tq 3 21 hH ?_
   refine U_tq 4 22 hH ?_
   refine U_tq 5 23 hH ?_
   refine U_tq 6 24 hH ?_
   refine U_tq 7 25 hH ?_
   refine U_tq 8 26 hH ?_
   refine U_tq 9 27 hH ?_
   clear hH
   refine U_on 10 fun K hK=>?_
   go_simp
   (with_reducible refine (wu _ _ _ _ _ B2 B3).mono ?_)
   rintro e w22 ⟨rfl,hb⟩
   replace hs:=ar hs hb
   revert B2 B3;refine mo hb ?_;intro B2 B3
   replace hz:=szB _ _ _ hz hb
   replace Vs:=gi.mono PC.kept Vs hb
   replace Bf:=ah Bf hb
   replace Bg:=ah Bg hb
   replace Bh:=ah Bh hb
   replace Bi:=ah Bi hb
   replace Bj:=ah Bj hb
   replace Bk:=ah Bk hb
   clear hb
   rw[←Bs.out]
   try go_wp2_with fail
   refine hK.out _ _ ⟨Bf,Bg,Bh,Bi,Bj,Bk⟩ (fun hH=>?_)
   clear hK K
   try simp only[LY]
   clear hH
   refine im (by kernel_rfl) ?_
   clear Bf Bg Bh Bi Bj Bk
   by_cases q9:bj L k=bj L (k - 1)
   ·obtain rfl:b8=true:=by rw[Bs.out];exact decide_eq_true q9
    have q9H:=ae q9
    clear q9
    have HEQ:=q9H
    have SX10d:L.length≤B1:=hcL
    go_wp2
    clear le4 le7
    go_loopw [5,7] (fun s5 s7 wq=>∃m:Nat,1≤m∧m≤(L.length - k:Nat)∧s7=.int .i64 m∧s5=.int .i64 ((cmS L k (m - 1)).2)∧Below wk.heap.size wk wq∧PV wq (.agg #[.bool ge4,.slice ae4 ne4 ce4,.slice Ae4 Ne4 De4]) (bj L k)∧PV wq (.agg #[.bool ge7,.slice ae7 ne7 ce7,.slice Ae7 Ne7 De7]) (bj L (k - 1))∧w.heap.size≤wq.heap.size∧(CpS L (cmS L k (m - 1)).1 (cmS L k (m - 1)).2 (k + m))∧(gi wk.heap.size 37 3 PC B1 wq (g) (cmS L k (m - 1)).1)) (fun s5 s7 _=>(L.length - k:Nat) - (intOf s7).toNat)
    case atStart=>exact⟨1,ag _,(by omega),rfl,rfl,hs,B2,B3,hz,(show CpS L L k (k + 1) from CpS.start Ba (by omega) Bl.out HEQ.out),Vs⟩
    case round=>
     clear B2 B3 hz hs
     obtain⟨m,Ba,k_le,rfl,rfl,hs,B2,B3,hz,Bc,Vs⟩:=hrel
     obtain⟨Bq,hwo⟩:∃x,x=wr:=⟨_,rfl⟩
     subst hwo
     replace Bc:=ae Bc
     replace Vs:=ae Vs
     replace Vs:=Vs.out
     have hm1:1≤m:=Ba
     have hc1:(cmS L k (m - 1)).2≤k + m - 1:=Bc.out.2.2.2.1
     have hc2:(cmS L k (m - 1)).1.length=L.length:=Bc.out.1
     by_cases q11:m < (L.length - k:Nat)
     ·have q11d:((m:Int) < ((L.length - k:Nat):Int))=True:=eq_true (by omega)
      go_upto_region 11 with fail
      have BI12a:m < (L.length - k:Nat):=by omega
      have BI12b:((m:Int):Int) < ((L.length - k:Nat):Int):=by omega
      obtain⟨Ca,C6,Ce,C8,C0,C4,C2,B4,B5,B6,Bd,le13⟩:=uc Vs (show (k + m) < (cmS L k (m - 1)).1.length by omega)
      rw[Bc.out.at.1] at Bd
      rw[Nat.add_mul] at B4 B5 B6
      have SW14a:=IntWalk.i64_in ((m:Int) - 1) (by omega)
      have SW14b:(0:Int)≤(m:Int) - 1:=by omega
      have SW14c:((m:Int) - 1).toNat=(m - 1):=by omega
      have SW14d:(m:Int) - 1 < ((L.length - k:Nat):Int):=by omega
      have SW14e:(1:Int)≤(m:Int):=by omega
      have SW14f:(m:Int) < ((L.length - k:Nat):Int) + 1:=by omega
      have BI15a:(m - 1) < (L.length - k:Nat):=by omega
      have BI15b:((m:Int) - 1:Int) < ((L.length - k:Nat):Int):=by omega
      obtain⟨Cb,C7,Cf,C9,C1,C5,C3,B7,B8,B9,Be,le16⟩:=uc Vs (show (k + (m - 1)) < (cmS L k (m - 1)).1.length by omega)
      rw[(show bj ((cmS L k (m - 1)).1) (k + (m - 1))=bj L (k + (m - 1)) by have:=Bc.out.at.2;rwa [show k + m - 1=k + (m - 1) by omega] at this)] at Be
      rw[Nat.add_mul] at B7 B8 B9
      obtain⟨b17,Bm⟩:∃zz:Bool,zz=decide (bj L (k + m)=bj L (k + (m - 1))):=⟨_,rfl⟩
      replace Bm:=ae Bm
      refine bw (S:=fun w'=>w'.cell? ⟨g,k * 3 + m * 3,none⟩=some (.bool Ca)∧w'.cell? ⟨g,k * 3 + m * 3 + 1,none⟩=some (.slice C6 Ce C8)∧w'.cell? ⟨g,k * 3 + m * 3 + 2,none⟩=some (.slice C0 C4 C2)∧w'.cell? ⟨g,k * 3 + (m - 1) * 3,none⟩=some (.bool Cb)∧w'.cell? ⟨g,k * 3 + (m - 1) * 3 + 1,none⟩=some (.slice C7 Cf C9)∧w'.cell? ⟨g,k * 3 + (m - 1) * 3 + 2,none⟩=some (.slice C1 C5 C3)) (by kernel_rfl) 12 ?_
      refine cq.abs ?_
      intro Bp hW
      have hb:Below Bq.heap.size Bq Bp:=by rw[hW];exact de _
      replace hs:=ar hs hb
      revert B3 Bd Be;revert B2;refine mo hb ?_;intro B2 B3 Bd Be
      replace hz:=szB _ _ _ hz hb
      replace Vs:=gi.mono PC.kept Vs hb
      replace B4:=ah B4 hb
      replace B5:=ah B5 hb
      replace B6:=ah B6 hb
      replace B7:=ah B7 hb
      replace B8:=ah B8 hb
      replace B9:=ah B9 hb
      clear hb hW
      have hH:=(show Bp.cell? ⟨g,k * 3 + m * 3,none⟩=some (.bool Ca)∧Bp.cell? ⟨g,k * 3 + m * 3 + 1,none⟩=some (.slice C6 Ce C8)∧Bp.cell? ⟨g,k * 3 + m * 3 + 2,none⟩=some (.slice C0 C4 C2)∧Bp.cell? ⟨g,k * 3 + (m - 1) * 3,none⟩=some (.bool Cb)∧Bp.cell? ⟨g,k * 3 + (m - 1) * 3 + 1,none⟩=some (.slice C7 Cf C9)∧Bp.cell? ⟨g,k * 3 + (m - 1) * 3 + 2,none⟩=some (.slice C1 C5 C3) from ⟨B4,B5,B6,B7,B8,B9⟩)
      refine U_tq 0 38 hH ?_
      refine U_tq 1 39 hH ?_
      refine U_tq 2 40 hH ?_
      refine U_tq 3 41 hH ?_
      refine U_tq 4 42 hH ?_
      refine U_tq 5 43 hH ?_
      refine U_tq 6 44 hH ?_
      refine U_tq 7 45 hH ?_
      refine U_tq 8 46 hH ?_
      refine U_tq 9 47 hH ?_
      clear hH
      refine U_on 10 fun K hK=>?_
      go_simp
      (with_reducible refine (wu _ _ _ _ _ Bd Be).mono ?_)
      rintro e By ⟨rfl,hb⟩
      replace hs:=ar hs hb
      revert B2 B3 Bd Be;refine mo hb ?_;intro B2 B3 Bd Be
      replace hz:=szB _ _ _ hz hb
      replace Vs:=gi.mono PC.kept Vs hb
      replace B4:=ah B4 hb
      replace B5:=ah B5 hb
      replace B6:=ah B6 hb
      replace B7:=ah B7 hb
      replace B8:=ah B8 hb
      replace B9:=ah B9 hb
      clear hb
      rw[←Bm.out]
      try go_wp2_with fail
      refine hK.out _ _ ⟨B4,B5,B6,B7,B8,B9⟩ (fun hH=>?_)
      clear hK K
      try simp only[LY]
      refine U_tq 11 49 hH ?_
      clear hH
      refine im (by kernel_rfl) ?_
      clear B4 B5 B6 B7 B8 B9
      by_cases q18:bj L (k + m)=bj L (k + (m - 1))
      ·obtain rfl:b17=true:=by rw[Bm.out];exact decide_eq_true q18
       have Bb:=ae q18
       clear q18
       go_wp2
       go_roundw
       case rel=>exact⟨m + 1,by omega,by omega,by go_num,(by rw[cm_yes Ba Bb.out]<;>go_num),hs,B2,B3,hz,(by rw[cm_yes Ba Bb.out];exact Bc.out.same (by omega) (show bj L (k + m)=bj L (k + m - 1) by rw[show k + m - 1=k + (m - 1) by omega];exact Bb.out)),(by rw[cm_yes Ba Bb.out];exact Vs)⟩
       all_goals first|(simp[intOf];done)|(simp[intOf];omega)
      obtain rfl:b17=false:=by rw[Bm.out];exact decide_eq_false q18
      have Bb:=ae q18
      clear q18
      obtain⟨ge19,ae19,ne19,ce19,Ae19,Ne19,De19,Bu,Bv,Bw,Br,le19⟩:=uc Vs (show (k + m) < (cmS L k (m - 1)).1.length by omega)
      rw[Bc.out.at.1] at Br
      rw[Nat.add_mul] at Bu Bv Bw
      have BI20a:(cmS L k (m - 1)).2 < L.length:=by omega
      have BI20b:((cmS L k (m - 1)).2:Int) < (L.length:Int):=by omega
      obtain⟨ge21,ae21,ne21,ce21,Ae21,Ne21,De21,Cg,Ch,Ci,Cc,le21⟩:=uc Vs (show (cmS L k (m - 1)).2 < (cmS L k (m - 1)).1.length by omega)
      have fVs:=Vs.free
      have LVs:=Vs.lt
      go_upto_region 10 with fail
      clear fVs LVs le13 le16 le19 Bu Bv Bw le21 Cg Ch Ci
      refine Code.abs ?_
      intro Bz hW
      have hG:Gr [g] By Bz:=by rw[hW];exact (Gr.refl _ _).set.set.set
      have hsz:=hs.size
      have hbw:Below wk.heap.size By Bz:=hG.d1 hs.size
      have hk:=hG.keep ⟨⟨_,Vs.ty,by decide⟩,True.intro⟩
      have V1s:gi wk.heap.size 37 3 PC B1 Bz (g) ((cmS L k (m - 1)).1.set (cmS L k (m - 1)).2 (bj L (k + m))):=by rw[hW];exact Vs.put3 PC.kept (show (cmS L k (m - 1)).2 < ((cmS L k (m - 1)).1).length by omega) (by decide) ⟨_,_,_,rfl,Br⟩ ((Gr.refl _ _))
      replace hs:=hs.trans hbw
      replace hz:=Nat.le_trans hz hG.size
      replace Vs:=V1s
      clear V1s
      revert Be Br Cc;revert Bd;revert B3;revert B2;refine ke hk ?_;intro B2 B3 Bd Be Br Cc
      clear hW hG hk hbw hsz
      go_wp2
      go_roundw
      case rel=>exact⟨m + 1,by omega,by omega,by go_num,(by rw[cm_no Ba Bb.out]<;>go_num),hs,B2,B3,hz,(by rw[cm_no Ba Bb.out];exact Bc.out.diff (by omega) (show bj L (k + m)≠bj L (k + m - 1) by rw[show k + m - 1=k + (m - 1) by omega];exact Bb.out)),(by rw[cm_no Ba Bb.out];exact Vs)⟩
      all_goals first|(simp[intOf];done)|(simp[intOf];omega)
     have q11d:((m:Int) < ((L.length - k:Nat):Int))=False:=eq_false (by omega)
     have HC:=Bc.out
     rw[show k + m=L.length by omega] at HC
     have hcc:(cmS L k (m - 1)).2≤L.length - 1:=HC.2.2.2.1
     have hml:((cmS L k (m - 1)).1).length=L.length:=HC.1
     have Cd:=ae HC.fin
     clear HC
     have hcl:∀ty,(Builtin.clear_ #[131] ty #[.slice (some ⟨g,(cmS L k (m - 1)).2 * 3,none⟩) (L.length - (cmS L k (m - 1)).2) (B1 - (cmS L k (m - 1)).2)]).run Tryz.prog Bq=.ok (.tuple #[]) (Bq.setCells g ((cmS L k (m - 1)).2 * 3) (zr3 (L.length - (cmS L k (m - 1)).2))):=
      fun ty=>run_clear3 Bq _ _ ty Tryz.underlying131 zero_ratio g ((cmS L k (m - 1)).2 * 3) _ _ (by omega) (fun j hj=>gi.cell_ok Vs (by omega)) (fun j _=>Vs.free _)
     have hG:=jd2 (zr3 (L.length - (cmS L k (m - 1)).2)) ((cmS L k (m - 1)).2 * 3) (Gr.refl [g] Bq)
     have Bn:=(Vs.cells PC.kept (by decide) (c:=(cmS L k (m - 1)).2) (by omega) (zr3 (L.length - (cmS L k (m - 1)).2))).rows
     rw[Cd.out] at Bn
     have hB:=cm_fin hk1 hk2 HS0.out (hs.trans (hG.below1 hs.size Vs.low)) (Nat.le_trans hz hG.size)
     replace Bn:=ae Bn
     replace hB:=ae hB
     have hcc2:(cmS L k (m - 1)).2≤B1:=by omega
     clear hG Bl Bc HS0 Cd
     go_wp2_with (simp only[hcl])
     go_ret
     exact⟨_,rfl,Bn.out,hB.out⟩
   obtain rfl:b8=false:=by rw[Bs.out];exact decide_eq_false q9
   have q9H:=ae q9
   clear q9
   go_wp2
   go_roundw
   case rel=>exact⟨k + 1,by omega,by omega,by go_num,hs,hz,Vs,(fun j a b=>(Nat.lt_or_eq_of_le (Nat.le_of_lt_succ b)).elim (fun e=>Bl.out j a e) (fun e=>e ▸ q9H.out))⟩
   all_goals first|(simp[intOf];done)|(simp[intOf];omega)
  have q2d:((k:Int) < (L.length:Int))=False:=eq_false (by omega)
  have Bn:=cw.rows Vs
  have hB:=cm_fin hk1 hk2 HS0.out hs hz
  have hE:cpQ L=L:=by have h:=cp_same L.length (ag _) (fun j a b=>Bl.out j a (by omega));rwa [List.take_length] at h
  have hYr2:Rows 3 37 PC wl0 (.slice (some ⟨g,0,none⟩) L.length B1) (cpQ L):=by rw[hE];exact Bn
  clear hE Bn Bl
  go_wp2
  go_ret
  exact⟨_,rfl,hYr2,hB⟩
theorem sl_CompQ0 (w:World) (a:Option Addr) (n c:Nat) (hn:n < 2):
  Calls Tryz.prog 124 #[.slice a n c,.func (.func 125) #[] #[]] w (fun e w'=>e=.returned (.slice a n c)∧w'=w):=by
 go_enter Tryz.func124,Tryz.ntmps124
 have hd:((n:Int) < 2)=True:=eq_true (by omega)
 go_wp2
 go_ret
 exact⟨rfl,rfl⟩
theorem sl_CompQ {base:Nat} {v:Value} {L:List Rat} (w:World) (h:cw base 37 3 PC w v L) (hb:base≤w.heap.size) (h2:L.length≤1000):
  Calls Tryz.prog 124 #[v,.func (.func 125) #[] #[]] w (fun e w'=>∃v',e=.returned v'∧Rows 3 37 PC w' v' (cpQ L)∧Below base w w'):=by
 by_cases h1:2≤L.length
 ·obtain⟨g,B1,rfl, -⟩:=h.openG (by omega)
  exact sl_CompQ2 w h hb h1 h2
 obtain⟨a,c,rfl, -, -, -⟩:=h.slice
 refine (sl_CompQ0 w a _ c (by omega)).mono ?_
 rintro e w' ⟨rfl,rfl⟩
 refine⟨_,rfl,?_,Below.refl _ _⟩
 rw[show cpQ L=L from by
  match L,h1 with
  | [],_=>rfl
  | [_],_=>rfl
  | _ ::_ ::_,h1=>exact absurd (show 2≤_ + 1 + 1 by omega) h1]
 exact h.rows
end Go.Proofs.YtidmjdmmpajooaaGreat
