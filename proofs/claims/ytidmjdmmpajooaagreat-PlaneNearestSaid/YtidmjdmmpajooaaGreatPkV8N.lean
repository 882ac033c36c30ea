/-
  The contracts of the program's naturals, thirteenth part: text.
-/
import Derived.Test.YtidmjdmmpajooaaGreatPkV7N
import Derived.Test.YtidmjdmmpajooaaGreatPkV1N
import Derived.Test.YtidmjdmmpajooaaGreatPkV2N
import Derived.Deep.RegionHeld3
import Derived.Deep.DeepCutAuto
import Derived.Deep.DrawnRows
import Derived.StillTailTactics
set_option linter.unusedSimpArgs false
set_option linter.unusedVariables false
set_option maxRecDepth 100000
set_option maxHeartbeats 4000000
namespace Go.Proofs.YtidmjdmmpajooaaGreat
open Go.RowKit Dg
theorem l_byChunk (ao:Option Addr) (n c:Nat) (l:List Nat) (w:World) (hs:Sl .u64 w ao n c l) (hd:cj 18446744073709551616 l) (hn:n≤1099511627776):
  Calls Tryz.prog 80 #[.slice ao n c,.int .u64 10000000000000000000] w (RetNatD .u64 18446744073709551616 w (val 18446744073709551616 l / 10 ^ 19) (val 18446744073709551616 l % 10 ^ 19)):=
 tc ao n c l (10 ^ 19) w hs hd (by decide) (by decide) hn
theorem string_info:(Tryz.prog.info? 9).map (fun i=>(i.zero,i.size,i.bytes))=some (some (.string ⟨#[]⟩),1,16):=by kernel_rfl
theorem dgs_split19 {m:Nat} (hq:0 < m / 10 ^ 19):dgs m=dgs (m / 10 ^ 19) ++ (List.replicate (19 - (dgs (m % 10 ^ 19)).length) 48 ++ dgs (m % 10 ^ 19)):=by
 have h:=dgs_split 19 hq
 rw[h,←pad_mod 19 m,pad_zeros 19 (m % 10 ^ 19) (Nat.mod_lt _ (by decide))]
theorem dgs_one19 {m:Nat} (hq:m / 10 ^ 19=0):dgs (m % 10 ^ 19)=dgs m:=by
 rw[Nat.mod_eq_of_lt]
 rcases Nat.lt_or_ge m (10 ^ 19) with h|h
 ·exact h
 ·have:=Nat.div_pos h (by decide);omega
theorem pow_step {m n m0:Nat} (h:m * 2 ^ n≤m0):m / 10 ^ 19 * 2 ^ (n + 1)≤m0:=by
 have h1:m / 10 ^ 19 * 2≤m:=by
  have:=Nat.div_mul_le_self m (10 ^ 19)
  have h2:m / 10 ^ 19 * 2≤m / 10 ^ 19 * 10 ^ 19:=Nat.mul_le_mul_left _ (by decide)
  omega
 generalize m / 10 ^ 19=q at *
 have h2:q * 2 ^ (n + 1)=q * 2 * 2 ^ n:=by rw[Nat.pow_succ,Nat.mul_assoc,Nat.mul_comm (2 ^ n) 2]
 have h3:q * 2 * 2 ^ n≤m * 2 ^ n:=Nat.mul_le_mul_right _ h1
 omega
theorem pow_bound {m n m0 K:Nat} (h:m * 2 ^ n≤m0) (hm:0 < m) (h0:m0 < 18446744073709551616 ^ K):n < 64 * K:=by
 have h1:2 ^ n≤m * 2 ^ n:=Nat.le_mul_of_pos_left _ hm
 have h2:(18446744073709551616:Nat) ^ K=2 ^ (64 * K):=by rw[show (18446744073709551616:Nat)=2 ^ 64 from rfl,←Nat.pow_mul]
 rw[h2] at h0
 exact (Nat.pow_lt_pow_iff_right (by omega)).1 (Nat.lt_of_le_of_lt (Nat.le_trans h1 h) h0)
theorem l_text_calls (ao:Option Addr) (n0 c0:Nat) (l0:List Nat) (w:World) (hs:Sl .u64 w ao n0 c0 l0) (hd:bi 18446744073709551616 l0) (hn:n0≤536870912):
  Calls Tryz.prog 58 #[.slice ao n0 c0] w (RetS w (dw (val 18446744073709551616 l0))):=by
 have hm0:=gp (by omega) hd.1
 rw[hs.len] at hm0
 have hbl:(dgs (val 18446744073709551616 l0)).length≤64 * n0:=by
  have h1:=qw (val 18446744073709551616 l0)
  have h2:bl (val 18446744073709551616 l0)≤64 * n0:=jy (by rwa [show (18446744073709551616:Nat)=2 ^ 64 from rfl,←Nat.pow_mul] at hm0)
  omega
 have hst:uw .u64 18446744073709551616 536870912 w (.slice ao n0 c0) (val 18446744073709551616 l0):=⟨_,_,_,_,rfl,hs,hd,rfl,hn⟩
 generalize hM:val 18446744073709551616 l0=m0 at *
 have HM0:=Lib.hid hm0
 have HST:=Lib.hid hst
 have HBL:=Lib.hid hbl
 clear hs hd hM hm0 hst hbl
 obtain⟨i0,hi,hz0,hz1,hz2⟩:=info_parts string_info
 go_enter Tryz.func58,Tryz.ntmps58
 go_wp2
 go_loopg [0,3] m0 (fun g av pv wr=>∃(m n:Nat) (ps:List (List UInt8)),m≤g∧uw .u64 18446744073709551616 536870912 wr av m∧wr.ownsRow w.heap.size 9 1 pv n (ps.map ib)∧m * 2 ^ n≤m0∧dgs m ++ ps.reverse.flatten=dgs m0∧Below w.heap.size w wr∧(n=0∨0 < m0))
 case atStart=>exact⟨m0,0,[],Nat.le_refl _,HST.out,World.ownsRow_nil _ _ _ _,by simp,by simp,Below.refl _ _,.inl rfl⟩
 case round=>
  obtain⟨m,n,ps,hmg,⟨a1,n1,c1,l1,rfl,hs1,hc1,hv1,hn1⟩,hown,hpow,hdg,hbel,hn00⟩:=hrel
  have hlen:=hown.1
  rw[List.length_map,Nat.mul_one] at hlen
  have HS1:=Lib.hid hs1
  have HC1:=Lib.hid hc1
  have HV1:=Lib.hid hv1
  have HOWN:=Lib.hid hown
  have HPOW:=Lib.hid hpow
  have HDG:=Lib.hid hdg
  have HB:=Lib.hid hbel
  have HLEN:=Lib.hid hlen
  have hpos:0 < n1↔0 < m:=by
   have:=hc1.length_pos_iff (by omega)
   rw[hs1.len,hv1] at this
   exact this
  have HN00:=Lib.hid hn00
  clear hs1 hc1 hv1 hown hpow hdg hbel HST hlen hn00
  by_cases h0:m=0
  ·subst h0
   obtain rfl:n1=0:=by omega
   clear hpos
   by_cases hn0:n=0
   ·subst hn0
    obtain⟨pa,pc,rfl,hpc,hpcm,hpn⟩:=rd HOWN.out
    go_wp2
    go_ret
    refine⟨?_,HB.out⟩
    have h1:=HDG.out
    obtain rfl:ps=[]:=List.length_eq_zero_iff.1 HLEN.out
    have h2:m0=0:=by
     by_cases h:m0=0
     ·exact h
     ·exfalso
      rw[gj,jc h] at h1
      simp at h1
    subst h2
    rfl
   ·obtain⟨g,pc,rfl,hgB,hgl⟩:=HOWN.out.form (by omega)
    have hnmax:n≤9223372036854775807:=by obtain⟨_,_,_,h1,h2,_⟩:=rd HOWN.out;omega
    have hn0':((n:Int) == 0)=false:=by rw[beq_eq_false_iff_ne];omega
    have hcells:∀j,j < n→wr.cell? ⟨g,j,none⟩=some (ib (ps[j]?.getD [])):=by
     intro j hj
     rw[HOWN.out.cellAt j (by omega),List.getElem?_map,List.getElem?_eq_getElem (by have:=HLEN.out;omega)]
     rfl
    have HCELLS:=Lib.hid hcells
    clear hcells
    have hnil:ps≠[]:=by intro e;subst e;have:=HLEN.out;simp at this;omega
    have hdec:dw m0=ps.reverse.flatten:=by
     have h1:=HDG.out
     rw[gj,List.nil_append] at h1
     unfold dw
     rw[if_neg,h1]
     intro e
     have:=HN00.out
     omega
    have hdl:ps.reverse.flatten.length≤64 * n0:=by
     have h1:=HDG.out
     rw[gj,List.nil_append] at h1
     rw[h1];exact HBL.out
    have HDL:=Lib.hid hdl
    have HDEC:=Lib.hid hdec
    clear hdec hdl
    have hb0:Lib.IsBuilder 115 5 wr.heap.size wr.heap.size (Lib.byteCells (ps.drop n).reverse.flatten) (wr.alloc (.cells #[.pointer none,.slice none 0 0] 115)):=by
     rw[List.drop_of_length_le (by have:=HLEN.out;omega)]
     exact .inl ⟨Nat.le_refl _,.slice none 0 0,heap_alloc_new wr _,World.ownsRow_nil _ _ _ _,by simp[Value.ownBlock]⟩
    have HB0:=Lib.hid hb0
    clear hb0
    obtain⟨wq,hwq⟩:∃wq:World,wq=wr:=⟨_,rfl⟩
    subst hwq
    go_wp2
    go_loopw [8] (fun iv w5=>∃k:Nat,k≤n∧iv=.int .i64 ((k:Int) - 1)∧Lib.IsBuilder 115 5 wq.heap.size wq.heap.size (Lib.byteCells (ps.drop k).reverse.flatten) w5∧Below wq.heap.size wq w5) (fun iv _=>(intOf iv + 1).toNat)
    case atStart=>exact⟨n,Nat.le_refl _,rfl,HB0.out,(Below.refl _ _).alloc (Nat.le_refl _) _⟩
    case round=>
     obtain⟨k,hk,rfl,hbk,hbe⟩:=hrel
     have HBK:=Lib.hid hbk
     have HBE:=Lib.hid hbe
     clear hbk hbe HB0
     by_cases hk0:k=0
     ·subst hk0
      go_wp2_with fail
      refine (Tryz.Builder_String_any _ _ _ _ HBK.out HBE.out.size).mono ?_
      rintro e w6 ⟨rfl,hb6⟩
      go_wp2
      go_ret
      exact⟨by rw[HDEC.out];rfl,HB.out.trans ((HBE.out.trans hb6).mono HB.out.size)⟩
     ·obtain⟨j,rfl⟩:∃j,k=j + 1:=⟨k - 1,by omega⟩
      have hc:=HCELLS.out j (by omega)
      have hc:=(HBE.out.cell (p:=⟨g,j,none⟩) hgl).trans hc
      have hpj:ps.drop j=(ps[j]?.getD []) ::ps.drop (j + 1):=by
       have hj:j < ps.length:=by have:=HLEN.out;omega
       rw[List.drop_eq_getElem_cons hj,List.getElem?_eq_getElem hj]
       rfl
      generalize ps[j]?.getD []=S at *
      have HPJ:=Lib.hid hpj
      clear hpj
      have hsum:(ps.drop (j + 1)).reverse.flatten.length + S.length≤64 * n0:=by
       have h1:=HDL.out
       rw[←List.take_append_drop j ps,HPJ.out,List.reverse_append,List.flatten_append,List.reverse_cons,List.flatten_append] at h1
       simp only[List.length_append,List.flatten_cons,List.flatten_nil,List.append_nil] at h1
       omega
      unfold ib at hc
      have HSUM:=Lib.hid hsum
      clear hsum
      go_wp2_with fail
      refine (writeString _ _ _ _ _ HBK.out (by rw[Lib.byteCells_length];have:=HSUM.out;simp only[ByteArray.size,List.size_toArray];omega) HBE.out.size).mono ?_
      rintro e w6 ⟨rfl,hb6,hbe6⟩
      have HB6:=Lib.hid hb6
      have HBE6:=Lib.hid hbe6
      clear hb6 hbe6
      go_wp2
      go_roundw
      case rel=>
       refine⟨j,by omega,by simp,?_,HBE.out.trans HBE6.out⟩
       have:=HB6.out
       rw[Lib.strCells_eq,←Lib.byteCells_append] at this
       rw[HPJ.out,List.reverse_cons,List.flatten_append,List.flatten_cons,List.flatten_nil,List.append_nil]
       exact .inr this
      all_goals first|(simp[intOf];done)|(simp[intOf];omega)
  ·have hn1p:0 < n1:=hpos.2 (by omega)
   have hn1p':0 < (n1:Int):=by omega
   have hm0p:0 < m0:=Nat.lt_of_lt_of_le (Nat.mul_pos (by omega) (Nat.pow_pos (by omega))) HPOW.out
   clear hpos
   go_wp2_with fail
   refine (l_byChunk _ _ _ _ _ HS1.out HC1.out.1 (by omega)).mono ?_
   rintro e w1 ⟨v,rfl,⟨a2,n2,c2,l2,rfl,hs2,hc2,hv2⟩,hb⟩
   rw[HV1.out] at hv2 ⊢
   have hown1:=qz HOWN.out hb
   have hbe1:=HB.out.trans (hb.mono HB.out.size)
   have hr:m % 10 ^ 19 < 18446744073709551616:=Nat.lt_trans (Nat.mod_lt _ (by decide)) (by decide)
   have hn2:n2≤536870912:=by
    have:=hc2.length_le_of (by omega) HC1.out (by rw[hv2,HV1.out];exact Nat.div_le_self _ _)
    rw[hs2.len,HS1.out.len] at this
    omega
   have hq2:0 < n2↔0 < m / 10 ^ 19:=by
    have:=hc2.length_pos_iff (by omega)
    rw[hs2.len,hv2] at this
    exact this
   have hlr:=dgs_len 19 (m % 10 ^ 19) (Nat.mod_lt _ (by decide))
   have HS2:=Lib.hid hs2
   have HC2:=Lib.hid hc2
   have HV2:=Lib.hid hv2
   have HOWN1:=Lib.hid hown1
   have HB1:=Lib.hid hbe1
   have HR:=Lib.hid hr
   clear hs2 hc2 hv2 hown1 hbe1 hb hr
   generalize hmr:m % 10 ^ 19=r at *
   have HMR:=Lib.hid hmr
   clear hmr
   go_wp2_with fail
   refine (zs r _ HR.out).mono ?_
   rintro e w2 ⟨rfl,hb⟩
   have hown2:=qz HOWN1.out hb
   have hbe2:=HB1.out.trans (hb.mono HB1.out.size)
   have hs2':=HS2.out.mono hb
   have HS2':=Lib.hid hs2'
   have HOWN2:=Lib.hid hown2
   have HB2:=Lib.hid hbe2
   clear hs2' hown2 hbe2 hb
   generalize hT:dgs r=T at *
   have HT:=Lib.hid hT
   clear hT
   by_cases hq:m / 10 ^ 19=0
   ·obtain rfl:n2=0:=by omega
    clear hq2
    have hnb:=pow_bound HPOW.out (by omega) HM0.out
    go_wp2_with (at_builtin;refine wpList_append_lies _ rfl _ _ _ rfl w.heap.size 9 i0 _ 1 16 Tryz.underlying107 hi hz0 hz1 hz2 rfl (by omega) _ n (ps.map ib) rfl (HOWN2.out.alloc _) ⟨w2.heap.size,0,none⟩ 1 1 [ib T] rfl rfl (news_new _ _ _) ?c1 (by omega) ?c2 ?c3 ?c4 _ rfl ?_)
    case c1=>intro u hu;simp at hu;subst hu;rfl
    case c2=>unfold maxLen;omega
    case c3=>omega
    case c4=>have:=HB2.out.size;simp;omega
    intro g cap w3 hown3 hgrow3 hat3 hlt3
    have HOWN3:=Lib.hid hown3
    have ho3:=iu (HOWN2.out.alloc (.cells #[ib T] 9)) hgrow3
    have HO3:=Lib.hid ho3
    have HB3:=Lib.hid (zi (HOWN2.out.alloc (.cells #[ib T] 9)) hgrow3 (HB2.out.alloc HB2.out.size _) (by have:=HB2.out.size;simp;omega))
    have HS3:=Lib.hid ((HS2'.out.mono ((Below.refl _ _).alloc (Nat.le_refl _) (.cells #[ib T] 9))).onlyT ho3 (by decide))
    clear hown3 hgrow3 ho3
    go_wp2
    go_roundg 0
    case measure=>omega
    case rel=>
     refine⟨0,n + 1,ps ++ [T],Nat.le_refl _,⟨_,_,_,_,rfl,HS3.out,HC2.out,by rw[HV2.out];exact hq,by omega⟩,by simpa using HOWN3.out,by simp,?_,HB3.out,.inr hm0p⟩
     rw[←HDG.out,gj,List.reverse_append,List.flatten_append,←HT.out,←HMR.out,dgs_one19 hq]
     simp
   ·have hn2p:0 < (n2:Int):=by omega
    clear hq2
    have hnb:=pow_bound HPOW.out (by omega) HM0.out
    go_wp2_with fail
    rw[show (19 - (T.length:Int))=((19 - T.length:Nat):Int) from by omega]
    refine (repeat0 _ (by omega) _).mono ?_
    rintro e w3 ⟨rfl,rfl⟩
    have hzl:(List.replicate (19 - T.length) (48:UInt8)).length=19 - T.length:=List.length_replicate
    generalize hZ:List.replicate (19 - T.length) (48:UInt8)=Z at *
    have HZ:=Lib.hid hZ
    clear hZ
    have hcat:∀W:World,(Op.stringOp .add ⟨Z.toArray⟩ ⟨T.toArray⟩).run Tryz.prog W=.ok (.string ⟨(Z ++ T).toArray⟩) W:=fun W=>by
     rw[run_string_add_sum,ja]
     simp only[ByteArray.size,List.size_toArray]
     omega
    go_wp2_with (at_builtin;refine wpList_append_lies _ rfl _ _ _ rfl w.heap.size 9 i0 _ 1 16 Tryz.underlying107 hi hz0 hz1 hz2 rfl (by omega) _ n (ps.map ib) rfl (HOWN2.out.alloc _) ⟨w3.heap.size,0,none⟩ 1 1 [ib (Z ++ T)] rfl rfl (news_new _ _ _) ?c1 (by omega) ?c2 ?c3 ?c4 _ rfl ?_)
    case c1=>intro u hu;simp at hu;subst hu;rfl
    case c2=>unfold maxLen;omega
    case c3=>omega
    case c4=>have:=HB2.out.size;simp;omega
    intro g cap w4 hown3 hgrow3 hat3 hlt3
    have HOWN3:=Lib.hid hown3
    have ho3:=iu (HOWN2.out.alloc (.cells #[ib (Z ++ T)] 9)) hgrow3
    have HB3:=Lib.hid (zi (HOWN2.out.alloc (.cells #[ib (Z ++ T)] 9)) hgrow3 (HB2.out.alloc HB2.out.size _) (by have:=HB2.out.size;simp;omega))
    have HS3:=Lib.hid ((HS2'.out.mono ((Below.refl _ _).alloc (Nat.le_refl _) (.cells #[ib (Z ++ T)] 9))).onlyT ho3 (by decide))
    clear hown3 hgrow3 ho3 hcat
    go_wp2
    go_roundg (m / 10 ^ 19)
    case measure=>have:=Nat.div_lt_self (show 0 < m by omega) (show 1 < 10 ^ 19 by decide);omega
    case rel=>
     refine⟨m / 10 ^ 19,n + 1,ps ++ [Z ++ T],Nat.le_refl _,⟨_,_,_,_,rfl,HS3.out,HC2.out,HV2.out,by omega⟩,by simpa using HOWN3.out,pow_step HPOW.out,?_,HB3.out,.inr hm0p⟩
     rw[←HDG.out,dgs_split19 (Nat.pos_of_ne_zero hq),HMR.out,HT.out,HZ.out,List.reverse_append,List.flatten_append]
     simp
end Go.Proofs.YtidmjdmmpajooaaGreat
namespace Go.Proofs.YtidmjdmmpajooaaGreat
open Go.RowKit Dg
def ux (k:IntKind) (B:Nat) (w:World) (x:Nat) (e:Ending) (w':World):Prop:=∃v,e=.returned v∧ck k B w' v x∧Below w.heap.size w w'
def rx (w:World) (q:Rat) (e:Ending) (w':World):Prop:=∃v,e=.returned v∧RV w' v q∧Below w.heap.size w w'
theorem ck.sz {w:World} {v:Value} {x K:Nat} (h:ck .u32 4294967296 w v x) (hx:x < 4294967296 ^ K):uw .u32 4294967296 K w v x:=by
 obtain⟨ao,n,c,l,e,hs,hc,hv⟩:=h
 refine⟨ao,n,c,l,e,hs,hc,hv,?_⟩
 have:=hc.length_le (by omega) (by rw[hv];exact hx)
 rwa [hs.len] at this
end Go.Proofs.YtidmjdmmpajooaaGreat
namespace Go.Proofs.YtidmjdmmpajooaaGreat
open Go.RowKit Dg
attribute [local go_sem ↓] Go.wp_at_zero Go.wp_at_succ
def bz (w W:World):Prop:=Below w.heap.size w W
theorem bz.step {w W W':World} (h:bz w W) (hb:Below W.heap.size W W'):bz w W':=Below.trans h (hb.mono (Below.size h))
theorem bz.refl (w:World):bz w w:=Below.refl _ _
theorem bz.rv {w W:World} {v:Value} {q:Rat} (hs:bz w W) (h:RV w v q):RV W v q:=h.mono hs
theorem bz.nv {k:IntKind} {B:Nat} {w W:World} {v:Value} {x:Nat} (hs:bz w W) (h:ck k B w v x):ck k B W v x:=h.mono hs
theorem si.n {k:IntKind} {B:Nat} {w:World} {x:Nat} {e:Ending} {w':World} (h:si k B w x e w'):ux k B w x e w':=let ⟨v,e,hv,hb,_⟩:=h;⟨v,e,hv,hb⟩
theorem df.mono {w w':World} {g:Nat} {u0 u1 u2:Value} (h:df w g u0 u1 u2) (hb:Below w.heap.size w w'):df w' g u0 u1 u2:=h.below hb
theorem yw (w:World) (q:Nat):Below w.heap.size w (w.drewN q):=it (Below.refl _ _) q
end Go.Proofs.YtidmjdmmpajooaaGreat
namespace Go.Proofs.YtidmjdmmpajooaaGreat
open Go.RowKit Dg
attribute [local go_sem ↓] Go.wp_at_zero Go.wp_at_succ
def sgQ (q:Rat):Int:=if q.num < 0 then -1 else if q.num=0 then 0 else 1
theorem RV.parts {w:World} {s:Bool} {v1 v2:Value} {q:Rat} (h:RV w (.agg #[.bool s,v1,v2]) q):∃d,s=ng q∧ck .u32 4294967296 w v1 q.num.natAbs∧ck .u32 4294967296 w v2 d∧(d=q.den∨d=0∧q.den=1):=by
 obtain⟨vn,vd,d,e,h1,h2,hd⟩:=h
 simp only[Value.agg.injEq,Array.mk.injEq,List.cons.injEq,Value.bool.injEq] at e
 obtain⟨rfl,rfl,rfl,_⟩:=e
 exact⟨d,rfl,h1,h2,hd⟩
theorem RV.neg {w:World} {b s:Bool} {v1 v2:Value} {q:Rat} (h:RV w (.agg #[.bool b,v1,v2]) q) (hs:s=(!b && decide (q≠0))):RV w (.agg #[.bool s,v1,v2]) (-q):=by
 obtain⟨d,rfl,h1,h2,hd⟩:=h.parts
 subst hs
 rw[←ng_neg]
 exact⟨v1,v2,d,rfl,by rw[Rat.neg_num,Int.natAbs_neg];exact h1,h2,by rw[Rat.neg_den];exact hd⟩
def up (q:Rat):Rat:=if ng q then -q else q
theorem RV.abs {w:World} {b:Bool} {v1 v2:Value} {q:Rat} (h:RV w (.agg #[.bool b,v1,v2]) q):RV w (.agg #[.bool false,v1,v2]) (up q):=by
 unfold up
 by_cases hn:ng q=true
 ·rw[if_pos hn]
  exact h.neg (by obtain⟨_,e,_⟩:=h.parts;rw[e,hn];rfl)
 rw[if_neg hn]
 obtain⟨_,e,_⟩:=h.parts
 rw[Bool.not_eq_true] at hn
 rw[e,hn] at h
 exact h
end Go.Proofs.YtidmjdmmpajooaaGreat
namespace Go.Proofs.YtidmjdmmpajooaaGreat
open Go.RowKit Dg
attribute [local go_sem ↓] Go.wp_at_zero Go.wp_at_succ
theorem rx.of_eq {w:World} {q q':Rat} {e:Ending} {w':World} (h:rx w q e w') (hq:q=q'):rx w q' e w':=hq ▸ h
theorem frac_mk (n d:Int) (hd:d≠0):(n:Rat) / (d:Rat)=mkQ (decide (n < 0) != decide (d < 0)) n.natAbs d.natAbs:=by
 have h:=div_mk (n:Rat) (d:Rat) (by rwa [Ne,Rat.intCast_eq_zero_iff])
 rw[h]
 simp only[ng,Rat.num_intCast,Rat.den_intCast,Nat.mul_one,Nat.one_mul]
 rfl
def qh (q:Rat):List UInt8:=(if ng q then [45] else []) ++ dw q.num.natAbs ++ (if q.den=1 then [] else 47 ::dw q.den)
theorem oh (w:World) (P:Program) (a b:List UInt8) (h:a.length + b.length≤9223372036854775807):(Op.stringOp .add ⟨a.toArray⟩ ⟨b.toArray⟩).run P w=.ok (.string ⟨(a ++ b).toArray⟩) w:=by
 rw[run_string_add_sum,ja]
 simp only[ByteArray.size,List.size_toArray]
 exact h
end Go.Proofs.YtidmjdmmpajooaaGreat
namespace Go.Proofs.YtidmjdmmpajooaaGreat
open Go.RowKit Dg
attribute [local go_sem ↓] Go.wp_at_zero Go.wp_at_succ
section
variable {w w':World}
instance {k:IntKind} {B x:Nat} {v:Value}:Mv (ck k B w v x) w w' (ck k B w' v x):=⟨fun hb h=>h.mono hb⟩
instance {B x:Nat} {v:Value}:Mk (ck .u64 B w v x) w w' (ck .u64 B w' v x):=⟨fun hb h=>h.keep hb⟩
instance {B x:Nat} {v:Value}:Mk (ck .u32 B w v x) w w' (ck .u32 B w' v x):=⟨fun hb h=>h.keep hb⟩
instance {k:IntKind} {ao:Option Addr} {n c:Nat} {l:List Nat}:Mv (Sl k w ao n c l) w w' (Sl k w' ao n c l):=⟨fun hb h=>h.mono hb⟩
end
theorem ck.szP {w:World} {v:Value} {x K:Nat} (h:ck .u64 18446744073709551616 w v x) (hx:x < 18446744073709551616 ^ K):uw .u64 18446744073709551616 K w v x:=by
 obtain⟨ao,n,c,l,e,hs,hc,hv⟩:=h
 refine⟨ao,n,c,l,e,hs,hc,hv,?_⟩
 have:=hc.length_le (by omega) (by rw[hv];exact hx)
 rwa [hs.len] at this
theorem ln_word (x:Nat) (w:World) (h:x < 18446744073709551616):Calls Tryz.prog 74 #[.int .u64 (x:Int)] w (ux .u64 18446744073709551616 w x):=qx x w h
theorem ln_plus {v1 v2:Value} {x y K:Nat} {w:World} (h1:ck .u64 18446744073709551616 w v1 x) (h2:ck .u64 18446744073709551616 w v2 y) (hx:x < 18446744073709551616 ^ K) (hy:y < 18446744073709551616 ^ K) (hK:K≤1099511627776):
  Calls Tryz.prog 53 #[v1,v2] w (ux .u64 18446744073709551616 w (x + y)):=by
 obtain⟨a1,n1,c1,l1,rfl,B1,B4,rfl,Ba⟩:=h1.szP hx
 obtain⟨a2,n2,c2,l2,rfl,B6,B5,rfl,hn2⟩:=h2.szP hy
 exact l_plus_calls _ _ _ _ _ _ _ _ _ B1 B6 B4 B5 (by omega) (by omega)
theorem ln_minus {v1 v2:Value} {x y K:Nat} {w:World} (h1:ck .u64 18446744073709551616 w v1 x) (h2:ck .u64 18446744073709551616 w v2 y) (hx:x < 18446744073709551616 ^ K) (hy:y≤x) (hK:K≤1099511627776):
  Calls Tryz.prog 54 #[v1,v2] w (ux .u64 18446744073709551616 w (x - y)):=by
 obtain⟨a1,n1,c1,l1,rfl,B1,B4,rfl,Ba⟩:=h1.szP hx
 obtain⟨a2,n2,c2,l2,rfl,B6,B5,rfl⟩:=h2
 exact l_minus_calls _ _ _ _ _ _ _ _ _ B1 B6 B4 B5 (by omega) hy
theorem kj {v1 v2:Value} {x y K L:Nat} {w:World} (h1:ck .u64 18446744073709551616 w v1 x) (h2:ck .u64 18446744073709551616 w v2 y) (hx:x < 18446744073709551616 ^ K) (hy:y < 18446744073709551616 ^ L) (hK:K≤1099511627776) (hL:L≤1099511627776):
  Calls Tryz.prog 47 #[v1,v2] w (ux .u64 18446744073709551616 w (x * y)):=by
 obtain⟨a1,n1,c1,l1,rfl,B1,B4,rfl,Ba⟩:=h1.szP hx
 obtain⟨a2,n2,c2,l2,rfl,B6,B5,rfl,hn2⟩:=h2.szP hy
 exact l_times_calls _ _ _ _ _ _ _ _ _ B1 B6 B4 B5 (by omega) (by omega)
theorem ur {v1 v2:Value} {x y:Nat} {w:World} (h1:ck .u64 18446744073709551616 w v1 x) (h2:ck .u64 18446744073709551616 w v2 y):
  Calls Tryz.prog 49 #[v1,v2] w (fj w (.int .i64 (gn x y))):=by
 obtain⟨a1,n1,c1,l1,rfl,B1,B4,rfl⟩:=h1
 obtain⟨a2,n2,c2,l2,rfl,B6,B5,rfl⟩:=h2
 exact (mj _ _ _ _ _ _ _ _ _ B1 B6 B4 B5).mono fun e w' ⟨q,he,hw⟩=>⟨he,by rw[hw];exact yw w q⟩
theorem qn {v:Value} {x:Nat} {w:World} (h:ck .u64 18446744073709551616 w v x):Calls Tryz.prog 70 #[v] w (fj w (.bool (decide (x=1)))):=
 (jf v x w h).mono fun e w' ⟨he,hw⟩=>⟨he,by rw[←hw];exact Below.refl _ _⟩
theorem ln_gcd {v1 v2:Value} {x y K:Nat} {w:World} (h1:ck .u64 18446744073709551616 w v1 x) (h2:ck .u64 18446744073709551616 w v2 y) (hx:x < 18446744073709551616 ^ K) (hy:y < 18446744073709551616 ^ K) (hK:K≤1099511627774):
  Calls Tryz.prog 75 #[v1,v2] w (ux .u64 18446744073709551616 w (Nat.gcd x y)):=by
 obtain⟨a1,n1,c1,l1,rfl,B1,B4,rfl,Ba⟩:=h1.szP hx
 obtain⟨a2,n2,c2,l2,rfl,B6,B5,rfl,hn2⟩:=h2.szP hy
 exact l_gcd_calls _ _ _ _ _ _ _ _ _ B1 B6 B4 B5 (by omega) (by omega)
theorem ln_divide {v1 v2:Value} {x y K:Nat} {w:World} (h1:ck .u64 18446744073709551616 w v1 x) (h2:ck .u64 18446744073709551616 w v2 y) (hx:x < 18446744073709551616 ^ K) (hy:0 < y) (hK:K≤1099511627774):
  Calls Tryz.prog 76 #[v1,v2] w (pu .u64 18446744073709551616 w (x / y) (x % y)):=by
 obtain⟨a1,n1,c1,l1,rfl,B1,B4,rfl,Ba⟩:=h1.szP hx
 obtain⟨a2,n2,c2,l2,rfl,B6,B5,rfl⟩:=h2
 exact ot _ _ _ _ _ _ _ _ _ B1 B6 B4 B5 (by omega) hy
theorem tx {v1:Value} {x K:Nat} {w:World} (h1:ck .u64 18446744073709551616 w v1 x) (hx:x < 18446744073709551616 ^ K) (hK:K≤536870912):
  Calls Tryz.prog 58 #[v1] w (fj w (ib (dw x))):=by
 obtain⟨a1,n1,c1,l1,rfl,B1,B4,rfl,Ba⟩:=h1.szP hx
 exact l_text_calls _ _ _ _ _ B1 B4 (by omega)
theorem load_P {w:World} {g:Nat} {u0 u1 u2:Value} {t:TypeId} (h:Bx w g t #[u0,u1,u2]):(loadVar 37 ⟨g,0,none⟩).run Tryz.prog w=.ok (.agg #[u0,u1,u2]) w:=by
 have h0:=h.at 0 rfl
 have h1:=h.at 1 rfl
 have h2:=h.at 2 rfl
 simp[go_sem,h0,h1,h2]
theorem mx {fn:Func} {p:Tmp} {w0 w:World} {g:Nat} {q:Rat} {v1 v2 v3:Value} {t:TypeId} {a:Act} (hr:fn.results=#[.cell p 37]) (ha:a.tmps.getD p undef=.pointer (some ⟨g,0,none⟩)) (hdef:a.defers=[])
  (hbox:Bx w g t #[v1,v2,v3]) (h:PV w (.agg #[v1,v2,v3]) q) (hb:Below w0.heap.size w0 w):bodyPost Tryz.prog fn (mp w0 q) .ret a w:=
 bodyPost_ret (v:=.agg #[v1,v2,v3]) (by rw[ul hr,ha];exact load_P hbox) hdef ⟨_,rfl,h,hb⟩
theorem ret_PE {fn:Func} {p u:Tmp} {w0 w:World} {g:Nat} {q:Rat} {v1 v2 v3:Value} {t:TypeId} {a:Act} {err:Int} (hr:fn.results=#[.cell p 37,.tmp u]) (ha:a.tmps.getD p undef=.pointer (some ⟨g,0,none⟩)) (hu:a.tmps.getD u undef=.int .i64 err) (hdef:a.defers=[])
  (hbox:Bx w g t #[v1,v2,v3]) (h:PV w (.agg #[v1,v2,v3]) q) (hb:Below w0.heap.size w0 w):bodyPost Tryz.prog fn (RetPE w0 q err) .ret a w:=by
 refine bodyPost_ret (v:=.tuple #[.agg #[v1,v2,v3],.int .i64 err]) ?_ hdef ⟨_,rfl,h,hb⟩
 rw[results_cell_tmp hr,ha,hu]
 simp only[asAddr,Sem.run_pure,Result.andThen_ok]
 rw[load_P hbox]
 rfl
theorem PV.of_eq {w:World} {v:Value} {q q':Rat} (h:PV w v q) (e:q=q'):PV w v q':=e ▸ h
theorem PV.zero (w:World):PV w (.agg #[.bool false,.slice none 0 0,.slice none 0 0]) 0:=
 PV.mk' ⟨_,_,_,[],rfl,Sl.empty _ _ _ _ (by omega) (fun _=>rfl),bi.nil _,rfl⟩ ⟨_,_,_,[],rfl,Sl.empty _ _ _ _ (by omega) (fun _=>rfl),bi.nil _,rfl⟩ (n:=0) (d:=0) rfl rfl rfl
theorem gz (v:Value) (q:Nat) (w:World) (h0:0 < q) (h:ck .u64 18446744073709551616 w v (if q=1 then 0 else q)):Calls Tryz.prog 48 #[v] w (ux .u64 18446744073709551616 w q):=by
 by_cases h1:q=1
 ·subst h1
  rw[if_pos rfl] at h
  obtain⟨ao,n,c,l,rfl,hs,hc,hv⟩:=h
  obtain rfl:=hc.nil_of (by omega) hv
  have:=hs.len
  simp at this
  subst this
  clear hs hc hv
  go_enter Tryz.func48,Tryz.ntmps48
  go_wp2_with fail
  refine (ln_word 1 _ (by omega)).mono ?_
  rintro e w1 ⟨_,rfl,hq,hb⟩
  go_wp2
  go_ret
  exact⟨_,rfl,hq,hb⟩
 rw[if_neg h1] at h
 obtain⟨ao,n,c,l,rfl,hs,hc,hv⟩:=h
 have hn:n≤9223372036854775807:=by have:=hs.cap;have:=hs.max;omega
 have hn0:0 < n:=by
  have:=hc.length_pos_iff (by omega)
  rw[hs.len,hv] at this
  exact this.2 h0
 have Ba:((n:Int) == 0)=false:=by rw[beq_eq_false_iff_ne];omega
 have HS:=ae hs
 have HC:=ae hc
 have HV:=ae hv
 clear hs hc hv h1
 go_enter Tryz.func48,Tryz.ntmps48
 go_wp2
 go_ret
 exact⟨_,rfl,⟨_,_,_,_,rfl,HS.out,HC.out,HV.out⟩,Below.refl _ _⟩
theorem jd9 (neg:Bool) (a1:Option Addr) (c1:Nat) (vd:Value) (w:World):Calls Tryz.prog 50 #[.bool neg,.slice a1 0 c1,vd] w (mp w 0):=by
 go_enter Tryz.func50,Tryz.ntmps50
 go_wp2
 have hs:=Below.refl w.heap.size w
 refine bodyPost.abs ?_
 intro w1 hW
 have B7:=hs.size
 have B1:Below w.heap.size w w1:=by rw[hW];exact (Below.alloc hs (by first|exact hs.size|(have:=hs.size;simp;done)|(have:=hs.size;simp;omega)) _)
 have hk:aw w w1:=by rw[hW];exact ((aw.refl _).alloc _)
 have B2:Bx w1 (w.heap.size) 37 #[.bool false,.slice none 0 0,.slice none 0 0]:=by rw[hW];exact (Bx.new' _ _ _ _ (by first|rfl|(simp;done)))
 replace hs:=B1
 clear B1
 have B0:=B2
 clear B2
 clear hW hk B7
 have Bh:=B0.lt
 exact mx rfl rfl rfl B0 (PV.zero _) hs
theorem p_reduced_pos (neg:Bool) (a1 a2:Option Addr) (n1 c1 n2 c2 n d K:Nat) (w:World) (hn:ck .u64 18446744073709551616 w (.slice a1 n1 c1) n) (hd:ck .u64 18446744073709551616 w (.slice a2 n2 c2) d)
  (hn0:0 < n) (hd0:0 < d) (hK:K≤1099511627774) (zn:n < 18446744073709551616 ^ K) (zd:d < 18446744073709551616 ^ K):
  Calls Tryz.prog 50 #[.bool neg,.slice a1 n1 c1,.slice a2 n2 c2] w (mp w (mkQ neg n d)):=by
 have Ba:((n1:Int) == 0)=false:=by
  obtain⟨ao,n',c,l,e,hs,hc,hv⟩:=hn
  injection e with e1 e2 e3
  subst e2
  have:=hc.length_pos_iff (by omega)
  rw[hs.len,hv] at this
  rw[beq_eq_false_iff_ne];have:=this.2 hn0;omega
 have hn1':n1≤9223372036854775807:=by
  obtain⟨ao,n',c,l,e,hs,hc,hv⟩:=hn
  injection e with e1 e2 e3
  subst e2
  have:=hs.cap;have:=hs.max;omega
 have hq1:=ut neg n d (by omega)
 have hq2:=mkQ_den neg n d (by omega)
 have hq3:=mkQ_ng neg n d (by omega) (by omega)
 generalize mkQ neg n d=q at *
 have hG0:=Nat.gcd_pos_of_pos_left d hn0
 have hdn:=Nat.div_pos (Nat.le_of_dvd hd0 (Nat.gcd_dvd_right n d)) hG0
 generalize hG:Nat.gcd n d=G at *
 have HG:=ae hG
 have Be:=ae hq1
 have Bf:=ae hq2
 have Bg:=ae hq3
 have HDN:=ae hdn
 clear hG hq1 hq2 hq3 hdn
 go_enter Tryz.func50,Tryz.ntmps50
 have hs:=Below.refl w.heap.size w
 go_wp2_with fail
 refine Calls.abs ?_
 intro w1 hW
 have B7:=hs.size
 have B1:Below w.heap.size w w1:=by rw[hW];exact (Below.alloc hs (by first|exact hs.size|(have:=hs.size;simp;done)|(have:=hs.size;simp;omega)) _)
 have hk:aw w w1:=by rw[hW];exact ((aw.refl _).alloc _)
 have B2:Bx w1 (w.heap.size) 37 #[.bool false,.slice none 0 0,.slice none 0 0]:=by rw[hW];exact (Bx.new' _ _ _ _ (by first|rfl|(simp;done)))
 replace hs:=B1
 clear B1
 have B0:=B2
 clear B2
 revert hd;revert hn;refine ke hk ?_;intro hn hd
 clear hW hk B7
 have Bh:=B0.lt
 refine (ln_gcd hn hd zn zd hK).mono ?_
 rintro e w2 ⟨_,rfl,hg,hb⟩
 obtain⟨ahg,nhg,chg,rfl⟩:=hg.shape
 revert hd;revert hn;revert B0;refine mS hs hb ?_;clear hs hb;intro hs B0 hn hd
 rw[HG.out] at hg
 by_cases B8:G=1
 ·have B3:decide (G=1)=true:=by simp[B8]
  have HG1:=ae B8
  clear B8
  go_wp2_with fail
  refine (qn hg).mono ?_
  rintro e w3 ⟨rfl,hb⟩
  revert hg B0 hn hd;refine mS hs hb ?_;clear hs hb;intro hs hg B0 hn hd
  rw[B3]
  clear B3
  have B8:=HG1.out
  by_cases hD1:d=1
  ·have B3:decide (d=1)=true:=by simp[hD1]
   have B9:=ae hD1
   clear hD1
   go_wp2_with fail
   refine (qn hd).mono ?_
   rintro e w4 ⟨rfl,hb⟩
   revert hg B0 hn hd;refine mS hs hb ?_;clear hs hb;intro hs hg B0 hn hd
   rw[B3]
   clear B3
   refine B0.k3f fun Bb Bc Bd fz=>?_
   go_wp2
   refine bodyPost.abs ?_
   intro w5 hW
   have B7:=hs.size
   have lz:=B0.lt
   have B1:Below w.heap.size w w5:=by rw[hW];exact (Below.setCell (Below.setCell (Below.setCell hs (by first|exact ag _|omega|(have:=hs.size;simp;done)|(have:=hs.size;simp;omega)) _) (by first|exact ag _|omega|(have:=hs.size;simp;done)|(have:=hs.size;simp;omega)) _) (by first|exact ag _|omega|(have:=hs.size;simp;done)|(have:=hs.size;simp;omega)) _)
   have hk:aw w4 w5:=by rw[hW];exact (aw.set (aw.set (aw.set (aw.refl _) B0.ty (by decide) _ _) (TyB.store B0.ty _ _) (by decide) _ _) (TyB.store (TyB.store B0.ty _ _) _ _) (by decide) _ _)
   have B2:Bx w5 (w.heap.size) 37 #[.bool neg,.slice a1 n1 c1,.slice none 0 0]:=by rw[hW];exact (Bx.set (Bx.set (Bx.set B0 0 _ rfl) 1 _ rfl) 2 _ rfl)
   replace hs:=B1
   clear B1
   replace B0:=B2
   clear B2
   revert hg hn hd;refine ke hk ?_;intro hg hn hd
   clear hW hk B7 lz
   refine mx rfl rfl rfl B0 (PV.mk' hn (d:=0) ⟨_,_,_,[],rfl,Sl.empty _ _ _ _ (by omega) (fun _=>rfl),bi.nil _,rfl⟩ Bg.out.symm ?_ ?_) hs
   ·rw[Be.out,B8,Nat.div_one]
   rw[Bf.out,B8,Nat.div_one,if_pos]
   exact B9.out
  have B3:decide (d=1)=false:=by simp[hD1]
  have B9:=ae hD1
  clear hD1
  go_wp2_with fail
  refine (qn hd).mono ?_
  rintro e w4 ⟨rfl,hb⟩
  revert hg B0 hn hd;refine mS hs hb ?_;clear hs hb;intro hs hg B0 hn hd
  rw[B3]
  clear B3
  refine B0.k3f fun Bb Bc Bd fz=>?_
  go_wp2
  refine bodyPost.abs ?_
  intro w5 hW
  have B7:=hs.size
  have lz:=B0.lt
  have B1:Below w.heap.size w w5:=by rw[hW];exact (Below.setCell (Below.setCell (Below.setCell hs (by first|exact ag _|omega|(have:=hs.size;simp;done)|(have:=hs.size;simp;omega)) _) (by first|exact ag _|omega|(have:=hs.size;simp;done)|(have:=hs.size;simp;omega)) _) (by first|exact ag _|omega|(have:=hs.size;simp;done)|(have:=hs.size;simp;omega)) _)
  have hk:aw w4 w5:=by rw[hW];exact (aw.set (aw.set (aw.set (aw.refl _) B0.ty (by decide) _ _) (TyB.store B0.ty _ _) (by decide) _ _) (TyB.store (TyB.store B0.ty _ _) _ _) (by decide) _ _)
  have B2:Bx w5 (w.heap.size) 37 #[.bool neg,.slice a1 n1 c1,.slice a2 n2 c2]:=by rw[hW];exact (Bx.set (Bx.set (Bx.set B0 0 _ rfl) 1 _ rfl) 2 _ rfl)
  replace hs:=B1
  clear B1
  replace B0:=B2
  clear B2
  revert hg hn hd;refine ke hk ?_;intro hg hn hd
  clear hW hk B7 lz
  refine mx rfl rfl rfl B0 (PV.mk' hn (d:=d) hd Bg.out.symm ?_ ?_) hs
  ·rw[Be.out,B8,Nat.div_one]
  rw[Bf.out,B8,Nat.div_one,if_neg]
  exact B9.out
 have B3:decide (G=1)=false:=by simp[B8]
 clear B8
 go_wp2_with fail
 refine (qn hg).mono ?_
 rintro e w3 ⟨rfl,hb⟩
 revert hg B0 hn hd;refine mS hs hb ?_;clear hs hb;intro hs hg B0 hn hd
 rw[B3]
 clear B3
 go_wp2_with fail
 refine (ln_divide hn hg zn hG0 hK).mono ?_
 rintro e w4 ⟨_,_,rfl,hN,hN',hb⟩
 obtain⟨ahN,nhN,chN,rfl⟩:=hN.shape
 obtain⟨_,_,_,rfl⟩:=hN'.shape
 clear hN'
 revert hd;revert hn;revert B0;revert hg;refine mS hs hb ?_;clear hs hb;intro hs hg B0 hn hd
 go_wp2_with fail
 refine (ln_divide hd hg zd hG0 hK).mono ?_
 rintro e w5 ⟨_,_,rfl,hD,hD',hb⟩
 obtain⟨ahD,nhD,chD,rfl⟩:=hD.shape
 obtain⟨_,_,_,rfl⟩:=hD'.shape
 clear hD'
 revert hd;revert hn;revert B0;revert hg;revert hN;refine mS hs hb ?_;clear hs hb;intro hs hN hg B0 hn hd
 by_cases hD1:(d / G)=1
 ·have B3:decide ((d / G)=1)=true:=by simp[hD1]
  have B9:=ae hD1
  clear hD1
  go_wp2_with fail
  refine (qn hD).mono ?_
  rintro e w6 ⟨rfl,hb⟩
  revert hD hN hg B0 hn hd;refine mS hs hb ?_;clear hs hb;intro hs hD hN hg B0 hn hd
  rw[B3]
  clear B3
  refine B0.k3f fun Bb Bc Bd fz=>?_
  go_wp2
  refine bodyPost.abs ?_
  intro w7 hW
  have B7:=hs.size
  have lz:=B0.lt
  have B1:Below w.heap.size w w7:=by rw[hW];exact (Below.setCell (Below.setCell (Below.setCell hs (by first|exact ag _|omega|(have:=hs.size;simp;done)|(have:=hs.size;simp;omega)) _) (by first|exact ag _|omega|(have:=hs.size;simp;done)|(have:=hs.size;simp;omega)) _) (by first|exact ag _|omega|(have:=hs.size;simp;done)|(have:=hs.size;simp;omega)) _)
  have hk:aw w6 w7:=by rw[hW];exact (aw.set (aw.set (aw.set (aw.refl _) B0.ty (by decide) _ _) (TyB.store B0.ty _ _) (by decide) _ _) (TyB.store (TyB.store B0.ty _ _) _ _) (by decide) _ _)
  have B2:Bx w7 (w.heap.size) 37 #[.bool neg,.slice ahN nhN chN,.slice none 0 0]:=by rw[hW];exact (Bx.set (Bx.set (Bx.set B0 0 _ rfl) 1 _ rfl) 2 _ rfl)
  replace hs:=B1
  clear B1
  replace B0:=B2
  clear B2
  revert hD hN hg hn hd;refine ke hk ?_;intro hD hN hg hn hd
  clear hW hk B7 lz
  refine mx rfl rfl rfl B0 (PV.mk' hN (d:=0) ⟨_,_,_,[],rfl,Sl.empty _ _ _ _ (by omega) (fun _=>rfl),bi.nil _,rfl⟩ Bg.out.symm ?_ ?_) hs
  ·rw[Be.out]
  rw[Bf.out,if_pos]
  exact B9.out
 have B3:decide ((d / G)=1)=false:=by simp[hD1]
 have B9:=ae hD1
 clear hD1
 go_wp2_with fail
 refine (qn hD).mono ?_
 rintro e w6 ⟨rfl,hb⟩
 revert hD hN hg B0 hn hd;refine mS hs hb ?_;clear hs hb;intro hs hD hN hg B0 hn hd
 rw[B3]
 clear B3
 refine B0.k3f fun Bb Bc Bd fz=>?_
 go_wp2
 refine bodyPost.abs ?_
 intro w7 hW
 have B7:=hs.size
 have lz:=B0.lt
 have B1:Below w.heap.size w w7:=by rw[hW];exact (Below.setCell (Below.setCell (Below.setCell hs (by first|exact ag _|omega|(have:=hs.size;simp;done)|(have:=hs.size;simp;omega)) _) (by first|exact ag _|omega|(have:=hs.size;simp;done)|(have:=hs.size;simp;omega)) _) (by first|exact ag _|omega|(have:=hs.size;simp;done)|(have:=hs.size;simp;omega)) _)
 have hk:aw w6 w7:=by rw[hW];exact (aw.set (aw.set (aw.set (aw.refl _) B0.ty (by decide) _ _) (TyB.store B0.ty _ _) (by decide) _ _) (TyB.store (TyB.store B0.ty _ _) _ _) (by decide) _ _)
 have B2:Bx w7 (w.heap.size) 37 #[.bool neg,.slice ahN nhN chN,.slice ahD nhD chD]:=by rw[hW];exact (Bx.set (Bx.set (Bx.set B0 0 _ rfl) 1 _ rfl) 2 _ rfl)
 replace hs:=B1
 clear B1
 replace B0:=B2
 clear B2
 revert hD hN hg hn hd;refine ke hk ?_;intro hD hN hg hn hd
 clear hW hk B7 lz
 refine mx rfl rfl rfl B0 (PV.mk' hN (d:=(d / G)) hD Bg.out.symm ?_ ?_) hs
 ·rw[Be.out]
 rw[Bf.out,if_neg]
 exact B9.out
theorem ip (neg:Bool) (vn vd:Value) (n d K:Nat) (w:World) (hn:ck .u64 18446744073709551616 w vn n) (hd:ck .u64 18446744073709551616 w vd d) (hd0:0 < d) (hK:K≤1099511627774)
  (zn:n < 18446744073709551616 ^ K) (zd:d < 18446744073709551616 ^ K):Calls Tryz.prog 50 #[.bool neg,vn,vd] w (mp w (mkQ neg n d)):=by
 obtain⟨a2,n2,c2,rfl⟩:=hd.shape
 rcases Nat.eq_zero_or_pos n with h|h
 ·subst h
  obtain⟨ao,n',c,l,rfl,hs,hc,hv⟩:=hn
  obtain rfl:=hc.nil_of (by omega) hv
  have:=hs.len
  simp at this
  subst this
  rw[mkQ_zero]
  exact jd9 _ _ _ _ _
 obtain⟨a1,n1,c1,rfl⟩:=hn.shape
 exact p_reduced_pos neg _ _ _ _ _ _ n d K w hn hd h hd0 hK zn zd
end Go.Proofs.YtidmjdmmpajooaaGreat
