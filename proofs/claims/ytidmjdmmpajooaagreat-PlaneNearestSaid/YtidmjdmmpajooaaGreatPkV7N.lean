/-
  The contracts of the program's naturals, tenth part: divide, the long case.
-/
import Derived.Test.YtidmjdmmpajooaaGreatPkV6N
import Derived.Test.YtidmjdmmpajooaaGreatShelf
import Derived.Test.YtidmjdmmpajooaaGreatPkV1N
import Derived.Laws.IdiomStrings
set_option linter.unusedSimpArgs false
set_option linter.unusedVariables false
set_option maxRecDepth 100000
set_option maxHeartbeats 4000000
namespace Go.Proofs.YtidmjdmmpajooaaGreat
open Go.RowKit Dg
theorem canon_len {l:List Nat} {x n:Nat} (hc:bi 18446744073709551616 l) (hv:val 18446744073709551616 l=x) (hx:x < 18446744073709551616 ^ n):l.length≤n:=hc.length_le (by omega) (by rw[hv];exact hx)
theorem l_divide_long (ao bo:Option Addr) (n c m d:Nat) (l l':List Nat) (w:World) (hs:Sl .u64 w ao n c l) (hs':Sl .u64 w bo m d l') (hd:bi 18446744073709551616 l) (hd':bi 18446744073709551616 l')
  (hn:n≤1099511627774) (hm2:2≤m) (hge:val 18446744073709551616 l'≤val 18446744073709551616 l):
  Calls Tryz.prog 76 #[.slice ao n c,.slice bo m d] w (pu .u64 18446744073709551616 w (val 18446744073709551616 l / val 18446744073709551616 l') (val 18446744073709551616 l % val 18446744073709551616 l')):=by
 have hcmp:=mj ao bo n c m d l l' w hs hs' hd hd'
 have hord:=ub hge
 have HC:=Lib.hid hcmp
 have hmn:m≤n:=by have:=hd'.length_le_of (by omega) hd hge;rw[hs.len,hs'.len] at this;exact this
 have htop:0 < l'[m - 1]?.getD 0:=by
  have h1:=hd'.2 (by rw[hs'.len];omega)
  rw[hs'.len] at h1
  omega
 have htopB:=hd'.1.get (by omega) (m - 1)
 obtain⟨s,hs63,hbl,hY0,hY1⟩:=shift_of htop htopB
 obtain⟨b1,o1,rfl,hcell⟩:=hs'.at (i:=m - 1) (by omega)
 generalize l'[m - 1]?.getD 0=top at *
 have hbpos:=hd'.pos (by omega) (by rw[hs'.len];omega)
 have hble:=hd'.ge (by rw[hs'.len];omega)
 rw[hs'.len] at hble
 have halt:=gp (by omega) hd.1
 have hblt:=gp (by omega) hd'.1
 rw[hs.len] at halt
 rw[hs'.len] at hblt
 have HBL:=Lib.hid hbl
 have HS:=Lib.hid hs
 have HS':=Lib.hid hs'
 have HD:=Lib.hid hd
 have HD':=Lib.hid hd'
 have hm1':((m:Int) == 1)=false:=by rw[beq_eq_false_iff_ne];omega
 generalize hA:val 18446744073709551616 l=A at *
 generalize hB:val 18446744073709551616 l'=B at *
 have hsB:2 ^ s≤9223372036854775808:=by
  have:2 ^ s≤2 ^ 63:=Nat.pow_le_pow_right (by omega) hs63
  exact this
 have hp0:=Nat.pow_pos (n:=s) (show 0 < 2 by omega)
 have HA:=Lib.hid hA
 have HBv:=Lib.hid hB
 have HALT:=Lib.hid halt
 have HBLT:=Lib.hid hblt
 have HBLE:=Lib.hid hble
 have hi1:(0:Int)≤(m:Int) - 1:=by omega
 have hi2:(m:Int) - 1 < (m:Int):=by omega
 clear hs hs' hd hd' hcmp hbl hA hB halt hblt hble hY0 hY1
 obtain⟨i0,hi,hz0,hz1,hz2⟩:=info_parts kh
 go_enter Tryz.func76,Tryz.ntmps76
 go_wp2_with fail
 refine (HC.out).mono ?_
 rintro e w' ⟨q,rfl,rfl⟩
 go_wp2_with fail
 refine (Tryz.bits_LeadingZeros64 (top:Int) _ (by omega) (by omega)).mono ?_
 rintro e w' ⟨rfl,rfl⟩
 rw[Int.toNat_natCast,HBL.out]
 have hbw:=it (Below.refl w.heap.size w) q
 generalize w.drewN q=w1 at *
 have HBW:=Lib.hid hbw
 clear hbw
 go_wp2_with fail
 refine (wd _ _ _ _ s _ (HS'.out.mono HBW.out) HD'.out (by omega) (by omega)).mono ?_
 rintro e w2 ⟨_,rfl,⟨vo,nv,cv,lv,rfl,hsv,hcv,hvv⟩,hb2⟩
 rw[HBv.out] at hvv
 have HSV:=Lib.hid hsv
 have HCV:=Lib.hid hcv
 have HVV:=Lib.hid hvv
 have HB2:=Lib.hid (HBW.out.trans (hb2.mono HBW.out.size))
 have hnv:nv≤m + 1:=by
  rw[←hsv.len]
  refine canon_len hcv hvv ?_
  rw[Nat.pow_succ]
  exact Nat.mul_lt_mul_of_lt_of_le HBLT.out (by omega) (by omega)
 have hnv2:2≤nv:=by
  rcases Nat.lt_or_ge nv 2 with h|h
  ·exfalso
   have h1:=gp (by omega) hcv.1
   rw[hvv,hsv.len] at h1
   have h2:18446744073709551616 ^ nv≤18446744073709551616 ^ (m - 1):=Nat.pow_le_pow_right (by omega) (by omega)
   have h3:B * 1≤B * 2 ^ s:=Nat.mul_le_mul_left _ hp0
   have:=HBLE.out
   omega
  ·exact h
 clear hsv hcv hvv hb2
 go_wp2_with fail
 have hbe:=(Below.refl w2.heap.size w2).alloc (Nat.le_refl _) (.cells #[] 95)
 have hblk0:Blk .u64 95 (w2.alloc (.cells #[] 95)) w2.heap.size []:=Blk.new .u64 95 w2 []
 refine (wd _ _ _ _ s _ ((HS.out.mono HB2.out).mono hbe) HD.out (by omega) (by omega)).mono ?_
 rintro e w3 ⟨_,rfl,⟨uo,nu,cu,ll,rfl,hsu,hcu,hvu⟩,hb3⟩
 rw[HA.out] at hvu
 have hnu:nu≤n + 1:=by
  rw[←hsu.len]
  refine canon_len hcu hvu ?_
  rw[Nat.pow_succ]
  exact Nat.mul_lt_mul_of_lt_of_le HALT.out (by omega) (by omega)
 have hnvu:nv≤nu:=by
  have:=HCV.out.length_le_of (by omega) hcu (by rw[HVV.out,hvu];exact Nat.mul_le_mul_right _ hge)
  rw[HSV.out.len,hsu.len] at this
  exact this
 obtain⟨bu,ou,rfl,_⟩:=hsu.at (i:=0) (by omega)
 have hblk3:=(hblk0.below hb3).owns (by simp)
 have hbe3:Below w2.heap.size w2 w3:=hbe.trans (hb3.mono (by simp))
 have HOWN:=Lib.hid hblk3
 have HNEWS:=Lib.hid (hsu.news' (Below.refl _ _))
 have HLL:=Lib.hid hsu.len
 have HCU:=Lib.hid hcu
 have HVU:=Lib.hid hvu
 have HBE3:=Lib.hid hbe3
 clear hsu hcu hvu hb3 hbe hblk0 hblk3 hbe3
 have hsz3:=HBE3.out.size
 go_wp2_with (at_builtin;refine wpList_append_own _ rfl _ _ 35 rfl w2.heap.size 95 i0 (.int .u64 0) 1 8 Tryz.underlying35 hi hz0 hz1 hz2 rfl (by decide) _ _ _ rfl HOWN.out ⟨bu,ou,none⟩ nu cu (ll.map fun x:Nat=>Value.int .u64 (x:Int)) rfl ?d1 HNEWS.out ?d5 ?d2 ?d3 ?d4 ?_)
 case d1=>rw[List.length_map,HLL.out,Nat.mul_one]
 case d5=>exact zh _ _
 case d2=>unfold maxLen;simp;omega
 case d3=>simp;omega
 case d4=>exact hsz3
 intro v4 w4 hown4 hgrow4 hnil4
 have hown4:w4.ownsRow w2.heap.size 95 1 v4 nu (ll.map fun x:Nat=>Value.int .u64 (x:Int)):=by simpa using hown4
 have hbe4:Below w2.heap.size w2 w4:=HBE3.out.grown hgrow4 hsz3 (fun k hk=>by cases hk;exact Nat.le_refl _)
 obtain⟨g4,c4,r4,rfl,hg4,hblk4,hc4,hcm4,_⟩:=iz.of_owns hown4 (.inr (by omega))
 have HOWN4:=Lib.hid (hown4.alloc (.cells #[.int .u64 0] 95))
 have HBE4:=Lib.hid hbe4
 have hsz4:=hbe4.size
 have hnews:∀j u,[Value.int .u64 (0:Int)][j]?=some u→(w4.alloc (.cells #[.int .u64 0] 95)).cell? ((⟨w4.heap.size,0,none⟩:Addr).add j)=some u:=by
  intro j u hu
  rw[iy,World.cell?_alloc_at _ _ _ _ rfl]
  match j with
  | 0=>simpa using hu
  | j + 1=>simp at hu
 have HNEWS4:=Lib.hid hnews
 clear hnews hown4 hgrow4 hnil4 hbe4 hblk4
 go_wp2_with (at_builtin;refine wpList_append_own _ rfl _ _ 35 rfl w2.heap.size 95 i0 (.int .u64 0) 1 8 Tryz.underlying35 hi hz0 hz1 hz2 rfl (by decide) _ _ _ rfl HOWN4.out ⟨w4.heap.size,0,none⟩ 1 1 [.int .u64 (0:Int)] rfl ?e1 HNEWS4.out ?e5 ?e2 ?e3 ?e4 ?_)
 case e1=>rfl
 case e5=>intro u hu;simp at hu;subst hu;rfl
 case e2=>unfold maxLen;omega
 case e3=>omega
 case e4=>simp;omega
 intro v5 w5 hown5 hgrow5 hnil5
 have hown5:w5.ownsRow w2.heap.size 95 1 v5 (nu + 1) ((ll ++ [0]).map fun x:Nat=>Value.int .u64 (x:Int)):=by simpa using hown5
 have hbe5:Below w2.heap.size w2 w5:=(HBE4.out.alloc hsz4 _).grown hgrow5 (by simp;omega) (fun k hk=>by cases hk;exact hg4)
 obtain⟨g,cg,r,rfl,hg,hblk5,hcg,hcgm,_⟩:=iz.of_owns hown5 (.inr (by omega))
 have HBLK5:=Lib.hid hblk5
 have HBE5:=Lib.hid hbe5
 have hgl:=hblk5.lt
 have hsz5:=hbe5.size
 clear hown5 hgrow5 hnil5 hbe5 hblk5 HOWN HNEWS HOWN4 HNEWS4 HBE3 HBE4 HC
 have hsw2:=HB2.out.size
 go_wp2_with (at_make;refine co _ rfl _ _ 35 rfl 95 i0 .u64 Tryz.underlying35 hi hz0 hz1 _ _ _ _ (nu + 1 - nv) (nu + 1 - nv) rfl rfl ?f1 ?f2 (Nat.le_refl _) ?f3 ?f4 ?_)
 case f1=>omega
 case f2=>omega
 case f3=>rw[hz2];omega
 case f4=>omega
 have hawg:ry g (.slice vo nv cv):=HSV.out.away g hg
 have hawq:ry w5.heap.size (.slice vo nv cv):=HSV.out.away _ hsz5
 have HAWG:=Lib.hid hawg
 have HAWQ:=Lib.hid hawq
 clear hawg hawq
 have hVpos:0 < val 18446744073709551616 lv:=by rw[HVV.out];exact Nat.mul_pos hbpos hp0
 have hVlt:val 18446744073709551616 lv < 18446744073709551616 ^ nv:=by have:=gp (by omega) HCV.out.1;rw[HSV.out.len] at this;exact this
 have hvtop:0 < lv[nv - 1]?.getD 0:=by
  have h1:=HCV.out.2 (by rw[HSV.out.len];omega)
  rw[HSV.out.len] at h1
  omega
 have HVPOS:=Lib.hid hVpos
 have HVLT:=Lib.hid hVlt
 have HVTOP:=Lib.hid hvtop
 have hstart:=long_start (by omega) HCU.out.1 HSV.out.len HCV.out (by omega) (by rw[HLL.out];exact hnvu)
 rw[HLL.out] at hstart
 have HSTART:=Lib.hid hstart
 clear hstart hVpos hVlt hvtop
 go_loopw [13] (fun iv wr=>∃(k:Nat) (L ql:List Nat),k≤nu + 1 - nv∧iv=.int .i64 ((k:Int) - 1)∧iz .u64 95 wr g L r∧L.length=nu + 1∧cj 18446744073709551616 L∧
   Blk .u64 95 wr w5.heap.size ql∧ql.length=nu + 1 - nv∧cj 18446744073709551616 ql∧val 18446744073709551616 L + val 18446744073709551616 (ql.drop k) * val 18446744073709551616 lv * 18446744073709551616 ^ k=A * 2 ^ s∧
   val 18446744073709551616 (L.drop k) < val 18446744073709551616 lv∧Sl .u64 wr vo nv cv lv∧Below w.heap.size w wr) (fun iv _=>(intOf iv + 1).toNat)
 case atStart=>
  have hbw:Below w5.heap.size w5 (w5.alloc (.cells (U .u64 (List.replicate (nu + 1 - nv) 0)) 95)):=(Below.refl _ _).alloc (Nat.le_refl _) _
  refine⟨nu + 1 - nv,ll ++ [0],_,Nat.le_refl _,(by first|rfl|(congr 1;omega)),HBLK5.out.below hbw,by simp[HLL.out],HCU.out.1.append (by intro x hx;simp at hx;omega),Blk.new .u64 _ w5 _,by simp,cj.zeros (by omega) _,?_,HSTART.out,?_,?_⟩
  ·rw[List.drop_of_length_le (by simp),il,ns,Nat.mul_zero,Nat.add_zero,HVU.out]
   simp[val]
  ·exact (HSV.out.mono (HBE5.out.mono (Nat.le_refl _))).mono hbw
  ·exact (HB2.out.trans (HBE5.out.mono hsw2)).trans (hbw.mono (by omega))
 case round=>
  obtain⟨k,L,ql,hk,rfl,hbL,hLl,hLd,hbq,hql,hqd,hval,hltV,hsv,hbel⟩:=hrel
  have HBL2:=Lib.hid hbL
  have HLL2:=Lib.hid hLl
  have HLD:=Lib.hid hLd
  have HBQ:=Lib.hid hbq
  have HQL:=Lib.hid hql
  have HQD:=Lib.hid hqd
  have HVAL:=Lib.hid hval
  have HLTV:=Lib.hid hltV
  have HSV2:=Lib.hid hsv
  have HBEL:=Lib.hid hbel
  clear hbL hLl hLd hbq hql hqd hval hltV hsv hbel HSV HBE5 HSTART HBLK5
  cases k with
  | zero=>
   rw[show ((0:Nat):Int) - 1= -1 from rfl]
   have hv:=HVAL.out
   rw[List.drop_zero,Nat.pow_zero,Nat.mul_one,Nat.add_comm] at hv
   have hl:=HLTV.out
   rw[List.drop_zero] at hl
   have hfin:=nf hv hl
   rw[HVV.out,Nat.mul_div_mul_right _ _ hp0,Nat.mul_mod_mul_right] at hfin
   have HFIN:=Lib.hid hfin
   clear hv hl hfin
   have hslq:=HBQ.out.sl (by have:=HQL.out;omega)
   rw[HQL.out] at hslq
   have hslu:=iz.sl (A:=[]) (C:=[]) (o:=L) (by have:=HBL2.out;simpa using this) cg (by rw[HLL2.out];exact hcg) hcgm
   rw[HLL2.out] at hslu
   have HSLQ:=Lib.hid hslq
   have HSLU:=Lib.hid hslu
   clear hslq hslu
   go_wp2_with fail
   refine (gw _ _ _ ql _ HSLQ.out HQD.out).mono ?_
   rintro e w' ⟨j1,hj1,hcj1,hvj1,rfl,rfl⟩
   go_wp2_with fail
   refine (gw _ _ _ L _ HSLU.out HLD.out).mono ?_
   rintro e w' ⟨j2,hj2,hcj2,hvj2,rfl,rfl⟩
   go_wp2_with fail
   refine (l_right_calls _ _ _ _ s _ (HSLU.out.take j2 hj2) hcj2.1 (by omega) (by omega)).mono ?_
   rintro e w6 ⟨v6,rfl,hv6,hb6⟩
   rw[hvj2,HFIN.out.2,Nat.mul_div_cancel _ hp0] at hv6
   have HV6:=Lib.hid hv6
   have HB6:=Lib.hid hb6
   have HVJ1:=Lib.hid hvj1
   have HCJ1:=Lib.hid hcj1
   clear hv6 hb6 hvj1 hcj1 hvj2 hcj2
   go_wp2
   go_ret2
   refine⟨_,_,rfl,ck.mono ⟨_,_,_,_,rfl,HSLQ.out.take j1 hj1,HCJ1.out,?_⟩ HB6.out,HV6.out,HBEL.out.trans (HB6.out.mono HBEL.out.size)⟩
   rw[HVJ1.out,HFIN.out.1]
  | succ k=>
   rw[show ((k + 1:Nat):Int) - 1=(k:Int) from by omega]
   have hpv:=part_val (by omega) (n:=nv) HLD.out (show k < L.length by rw[HLL2.out];omega) (Nat.le_of_lt HVLT.out) HLTV.out
   have hlen:(L.take k).length=k:=by rw[List.length_take,HLL2.out];omega
   have hol:((L.drop k).take (nv + 1)).length=nv + 1:=by rw[List.length_take,List.length_drop,HLL2.out];omega
   have hb3:=HBL2.out
   rw[parts3 L k (nv + 1)] at hb3
   have hcall:=l_digit_calls g nv (cg - k) cv vo (L.take k) ((L.drop k).take (nv + 1)) (L.drop (k + (nv + 1))) lv r wr hb3 hol ((HLD.out.drop k).take _) (by omega) (by omega) HSV2.out HCV.out.1 HAWG.out hnv2 (by omega) HVTOP.out (by rw[hpv.1];exact hpv.2.1)
   rw[hlen] at hcall
   have HCALL:=Lib.hid hcall
   have HPV:=Lib.hid hpv
   have hle1:(k:Int) + (nv:Int) + 1≤(cg:Int):=by omega
   clear hpv hol hb3 hcall
   have hgne:g≠w5.heap.size:=by omega
   go_wp2_with fail
   rw[show k + nv + 1 - k=nv + 1 from by omega]
   refine (HCALL.out).mono ?_
   rintro e w6 ⟨ol',rfl,hl',hd',hv',hb',ho'⟩
   rw[HPV.out.1] at hv' ⊢
   have hbq6:=HBQ.out.only ho' (by omega)
   have hc6:=hbq6.cell (j:=k) (by rw[HQL.out];omega)
   have hf6:=hbq6.free k
   have hstep:=long_step L ql ol' k nv (val 18446744073709551616 lv) (A * 2 ^ s) (by rw[HLL2.out];omega) (by rw[HQL.out];omega) HPV.out.2.2 HPV.out.1 hv' HVPOS.out HVAL.out
   have hqB:val 18446744073709551616 (L.drop k) / val 18446744073709551616 lv < 18446744073709551616:=by rw[Nat.div_lt_iff_lt_mul HVPOS.out];exact HPV.out.2.1
   generalize val 18446744073709551616 (L.drop k) / val 18446744073709551616 lv=Q at *
   have hbq7:=hbq6.set k Q
   have hset:Only w5.heap.size w6 (w6.setCell ⟨w5.heap.size,k,none⟩ (.int .u64 (Q:Int))):=(Only.refl _ _).setCell _ _
   have hbl7:=hb'.only hset hgne
   have hsv7:=((HSV2.out.only HAWG.out ho')).only HAWQ.out hset
   have hbe7:Below w.heap.size w (w6.setCell ⟨w5.heap.size,k,none⟩ (.int .u64 (Q:Int))):=(HBEL.out.trans (ho'.below (by omega) HBEL.out.size)).setCell (by show w.heap.size≤w5.heap.size;omega) _
   have hL7:(L.take k ++ ol' ++ L.drop (k + (nv + 1))).length=nu + 1:=by
    rw[List.length_append,List.length_append,hlen,hl',List.length_drop,HLL2.out];omega
   have hD7:cj 18446744073709551616 (L.take k ++ ol' ++ L.drop (k + (nv + 1))):=((HLD.out.take k).append hd').append (HLD.out.drop _)
   have HREL:=Lib.hid (show ∃(k':Nat) (L ql:List Nat),k'≤nu + 1 - nv∧Value.int .i64 ((k:Int) - 1)=.int .i64 ((k':Int) - 1)∧iz .u64 95 (w6.setCell ⟨w5.heap.size,k,none⟩ (.int .u64 (Q:Int))) g L r∧L.length=nu + 1∧cj 18446744073709551616 L∧
    Blk .u64 95 (w6.setCell ⟨w5.heap.size,k,none⟩ (.int .u64 (Q:Int))) w5.heap.size ql∧ql.length=nu + 1 - nv∧cj 18446744073709551616 ql∧val 18446744073709551616 L + val 18446744073709551616 (ql.drop k') * val 18446744073709551616 lv * 18446744073709551616 ^ k'=A * 2 ^ s∧
    val 18446744073709551616 (L.drop k') < val 18446744073709551616 lv∧Sl .u64 (w6.setCell ⟨w5.heap.size,k,none⟩ (.int .u64 (Q:Int))) vo nv cv lv∧Below w.heap.size w (w6.setCell ⟨w5.heap.size,k,none⟩ (.int .u64 (Q:Int))) from
    ⟨k,_,_,by omega,rfl,hbl7,hL7,hD7,hbq7,by rw[List.length_set];exact HQL.out,HQD.out.set _ _ hqB,hstep.1,hstep.2,hsv7,hbe7⟩)
   clear hl' hd' hv' hb' ho' hbq6 hstep hbq7 hset hbl7 hsv7 hbe7 hL7 hD7
   go_wp2
   go_roundw
   case rel=>exact HREL.out
   all_goals first|(simp[intOf];done)|(simp[intOf];omega)
theorem ot (ao bo:Option Addr) (n c m d:Nat) (l l':List Nat) (w:World) (hs:Sl .u64 w ao n c l) (hs':Sl .u64 w bo m d l') (hd:bi 18446744073709551616 l) (hd':bi 18446744073709551616 l')
  (hn:n≤1099511627774) (h0:0 < val 18446744073709551616 l'):
  Calls Tryz.prog 76 #[.slice ao n c,.slice bo m d] w (pu .u64 18446744073709551616 w (val 18446744073709551616 l / val 18446744073709551616 l') (val 18446744073709551616 l % val 18446744073709551616 l')):=by
 by_cases h:val 18446744073709551616 l < val 18446744073709551616 l'
 ·exact l_divide_less _ _ _ _ _ _ _ _ _ hs hs' hd hd' h
 ·by_cases h1:m=1
  ·subst h1
   exact l_divide_one _ _ _ _ _ _ _ _ hs hs' hd hd' (by omega) (by omega)
  ·have:0 < m:=by rw[←hs'.len];exact (hd'.length_pos_iff (by omega)).2 h0
   exact l_divide_long _ _ _ _ _ _ _ _ _ hs hs' hd hd' hn (by omega) (by omega)
end Go.Proofs.YtidmjdmmpajooaaGreat
namespace Go.Proofs.YtidmjdmmpajooaaGreat
open Go.RowKit Dg
theorem l_small_calls (ao bo:Option Addr) (n c d:Nat) (l l':List Nat) (w:World) (hs:Sl .u64 w ao n c l) (hs':Sl .u64 w bo 1 d l') (hd:bi 18446744073709551616 l) (hd':bi 18446744073709551616 l') (hn:n≤1):
  Calls Tryz.prog 91 #[.slice ao n c,.slice bo 1 d] w fun e w'=>e=.returned (.int .u64 ((Nat.gcd (val 18446744073709551616 l) (val 18446744073709551616 l'):Nat):Int))∧∃q,w'=w.drewN q:=by
 obtain⟨y,rfl⟩:=List.length_eq_one_iff.1 hs'.len
 rw[ns] at *
 have hyB:y < 18446744073709551616:=hd'.1 y (by simp)
 obtain⟨b1,o1,rfl,hcell⟩:=hs'.at (i:=0) (by omega)
 simp only[Nat.add_zero,List.getElem?_cons_zero,Option.getD_some] at hcell
 generalize hG:Nat.gcd (val 18446744073709551616 l) y=G
 rcases Nat.lt_or_ge 0 n with h|h
 ·obtain rfl:n=1:=by omega
  obtain⟨x,rfl⟩:=List.length_eq_one_iff.1 hs.len
  rw[ns] at *
  have hxB:x < 18446744073709551616:=hd.1 x (by simp)
  obtain⟨b2,o2,rfl,hcell2⟩:=hs.at (i:=0) (by omega)
  simp only[Nat.add_zero,List.getElem?_cons_zero,Option.getD_some] at hcell2
  have HG:=Lib.hid hG
  clear hs hs' hd hd' hG hn
  go_enter Tryz.func91,Tryz.ntmps91
  go_wp2
  go_loopg [5,6] y (fun k xv yv wr=>∃(x y q:Nat),y≤k∧xv=.int .u64 x∧yv=.int .u64 y∧x < 18446744073709551616∧y < 18446744073709551616∧Nat.gcd x y=G∧wr=w.drewN q)
  case atStart=>exact⟨x,y,0,Nat.le_refl _,rfl,rfl,hxB,hyB,HG.out,rfl⟩
  case round=>
   obtain⟨x,y,q,hyk,rfl,rfl,hx,hy,hg,rfl⟩:=hrel
   have HGG:=Lib.hid hg
   clear hg HG hxB hyB
   by_cases h0:y=0
   ·subst h0
    have hg:=HGG.out
    rw[Nat.gcd_zero_right] at hg
    subst hg
    go_wp2
    go_ret
    exact⟨rfl,q,rfl⟩
   ·have hlt:=Nat.mod_lt x (show 0 < y by omega)
    have hy0:¬ (y:Int)=0:=by omega
    have hy1:0 < (y:Int):=by omega
    go_wp2
    go_quiet (fail)
    go_wp2
    go_roundg (x % y)
    case measure=>omega
    case rel=>
     refine⟨y,x % y,_,Nat.le_refl _,rfl,by simp,hy,by omega,?_,World.drewN_drewN ..⟩
     rw[←HGG.out,Nat.gcd_comm x y,Nat.gcd_rec y x,Nat.gcd_comm]
 ·obtain rfl:n=0:=by omega
  obtain rfl:=List.length_eq_zero_iff.1 hs.len
  have HG:=Lib.hid hG
  clear hs hs' hd hd' hG hn
  go_enter Tryz.func91,Tryz.ntmps91
  go_wp2
  go_loopg [5,6] y (fun k xv yv wr=>∃(x y q:Nat),y≤k∧xv=.int .u64 x∧yv=.int .u64 y∧x < 18446744073709551616∧y < 18446744073709551616∧Nat.gcd x y=G∧wr=w.drewN q)
  case atStart=>exact⟨0,y,0,Nat.le_refl _,rfl,rfl,by omega,hyB,HG.out,rfl⟩
  case round=>
   obtain⟨x,y,q,hyk,rfl,rfl,hx,hy,hg,rfl⟩:=hrel
   have HGG:=Lib.hid hg
   clear hg HG hyB
   by_cases h0:y=0
   ·subst h0
    have hg:=HGG.out
    rw[Nat.gcd_zero_right] at hg
    subst hg
    go_wp2
    go_ret
    exact⟨rfl,q,rfl⟩
   ·have hlt:=Nat.mod_lt x (show 0 < y by omega)
    have hy0:¬ (y:Int)=0:=by omega
    have hy1:0 < (y:Int):=by omega
    go_wp2
    go_quiet (fail)
    go_wp2
    go_roundg (x % y)
    case measure=>omega
    case rel=>
     refine⟨y,x % y,_,Nat.le_refl _,rfl,by simp,hy,by omega,?_,World.drewN_drewN ..⟩
     rw[←HGG.out,Nat.gcd_comm x y,Nat.gcd_rec y x,Nat.gcd_comm]
theorem l_gcd_calls (ao bo:Option Addr) (n c m d:Nat) (l l':List Nat) (w:World) (hs:Sl .u64 w ao n c l) (hs':Sl .u64 w bo m d l') (hd:bi 18446744073709551616 l) (hd':bi 18446744073709551616 l')
  (hn:n≤1099511627774) (hm:m≤1099511627774):
  Calls Tryz.prog 75 #[.slice ao n c,.slice bo m d] w (RetL w (Nat.gcd (val 18446744073709551616 l) (val 18446744073709551616 l'))):=by
 have ha:uw .u64 18446744073709551616 1099511627774 w (.slice ao n c) (val 18446744073709551616 l):=⟨_,_,_,_,rfl,hs,hd,rfl,hn⟩
 have hb:uw .u64 18446744073709551616 1099511627774 w (.slice bo m d) (val 18446744073709551616 l'):=⟨_,_,_,_,rfl,hs',hd',rfl,hm⟩
 clear hs hs' hd hd' hn hm
 generalize hG:Nat.gcd (val 18446744073709551616 l) (val 18446744073709551616 l')=G
 generalize val 18446744073709551616 l=A at *
 generalize val 18446744073709551616 l'=C at *
 have HA:=Lib.hid ha
 have HB:=Lib.hid hb
 have HG:=Lib.hid hG
 clear ha hb hG
 go_enter Tryz.func75,Tryz.ntmps75
 go_wp2
 go_loopg [0,1] C (fun k av bv wr=>∃(x y:Nat),y≤k∧Nat.gcd x y=G∧uw .u64 18446744073709551616 1099511627774 wr av x∧uw .u64 18446744073709551616 1099511627774 wr bv y∧Below w.heap.size w wr)
 case atStart=>exact⟨A,C,Nat.le_refl _,HG.out,HA.out,HB.out,Below.refl _ _⟩
 case round=>
  obtain⟨x,y,hyk,hg,⟨a1,n1,c1,l1,rfl,hs1,hc1,hv1,hn1⟩,⟨a2,n2,c2,l2,rfl,hs2,hc2,hv2,hn2⟩,hbel⟩:=hrel
  have HS1:=Lib.hid hs1
  have HS2:=Lib.hid hs2
  have HC1:=Lib.hid hc1
  have HC2:=Lib.hid hc2
  have HV1:=Lib.hid hv1
  have HV2:=Lib.hid hv2
  have HBE:=Lib.hid hbel
  have HGG:=Lib.hid hg
  clear hs1 hs2 hc1 hc2 hv1 hv2 hbel hg
  by_cases h0:n2=0
  ·subst h0
   go_wp2
   go_ret
   have:l2=[]:=List.length_eq_zero_iff.1 HS2.out.len
   have h2:=HV2.out
   rw[this] at h2
   refine⟨_,rfl,⟨_,_,_,_,rfl,HS1.out,HC1.out,?_⟩,HBE.out⟩
   rw[HV1.out,←HGG.out,←h2]
   simp[val]
  ·have hpos:0 < y:=by have:=HC2.out.pos (by omega) (by rw[HS2.out.len];omega);rw[HV2.out] at this;exact this
   have hlt:=Nat.mod_lt x hpos
   by_cases hsm:n1≤1∧n2≤1
   ·obtain rfl:n2=1:=by omega
    have h1:(n1:Int)≤1:=by omega
    go_wp2_with fail
    refine (l_small_calls _ _ _ _ _ _ _ _ HS1.out HS2.out HC1.out HC2.out hsm.1).mono ?_
    rintro e w1 ⟨rfl,q,rfl⟩
    have hgl:Nat.gcd (val 18446744073709551616 l1) (val 18446744073709551616 l2) < 18446744073709551616:=by
     have h2:=gp (by omega) HC2.out.1
     rw[HS2.out.len,Nat.pow_one] at h2
     have h3:=Nat.gcd_le_right (val 18446744073709551616 l1) (n:=val 18446744073709551616 l2) (by rw[HV2.out];exact hpos)
     omega
    go_wp2_with fail
    refine (qx _ _ hgl).mono ?_
    rintro e w2 ⟨v,rfl,hv,hb⟩
    rw[HV1.out,HV2.out,HGG.out] at hv
    have HV:=Lib.hid hv
    have HB2:=Lib.hid hb
    clear hv hb hgl
    go_wp2
    go_ret
    exact⟨_,rfl,HV.out,(it HBE.out q).trans (HB2.out.mono (it HBE.out q).size)⟩
   ·by_cases h1:n1≤1
    ·have h1':(n1:Int)≤1:=by omega
     have h2':¬ (n2:Int)≤1:=by omega
     skip
     go_wp2_with fail
     refine (ot _ _ _ _ _ _ _ _ _ HS1.out HS2.out HC1.out HC2.out hn1 (by rw[HV2.out];exact hpos)).mono ?_
     rintro e w1 ⟨v1,v2,rfl,⟨a4,n4,c4,l4,rfl,_⟩,⟨a3,n3,c3,l3,rfl,hs3,hc3,hv3⟩,hb⟩
     rw[HV1.out,HV2.out] at hv3
     have hn3:n3≤1099511627774:=by
      have:=hc3.length_le_of (by omega) HC2.out (by rw[hv3,HV2.out];omega)
      rw[hs3.len,HS2.out.len] at this
      omega
     have HS3:=Lib.hid hs3
     have HC3:=Lib.hid hc3
     have HV3:=Lib.hid hv3
     have HB3:=Lib.hid hb
     clear hs3 hc3 hv3 hb
     go_wp2
     go_roundg (x % y)
     case measure=>omega
     case rel=>
      refine⟨y,x % y,Nat.le_refl _,?_,⟨_,_,_,_,rfl,HS2.out.mono HB3.out,HC2.out,HV2.out,hn2⟩,⟨_,_,_,_,rfl,HS3.out,HC3.out,HV3.out,hn3⟩,HBE.out.trans (HB3.out.mono HBE.out.size)⟩
      rw[←HGG.out,Nat.gcd_comm x y,Nat.gcd_rec y x,Nat.gcd_comm]
    ·have h1':¬ (n1:Int)≤1:=by omega
     skip
     go_wp2_with fail
     refine (ot _ _ _ _ _ _ _ _ _ HS1.out HS2.out HC1.out HC2.out hn1 (by rw[HV2.out];exact hpos)).mono ?_
     rintro e w1 ⟨v1,v2,rfl,⟨a4,n4,c4,l4,rfl,_⟩,⟨a3,n3,c3,l3,rfl,hs3,hc3,hv3⟩,hb⟩
     rw[HV1.out,HV2.out] at hv3
     have hn3:n3≤1099511627774:=by
      have:=hc3.length_le_of (by omega) HC2.out (by rw[hv3,HV2.out];omega)
      rw[hs3.len,HS2.out.len] at this
      omega
     have HS3:=Lib.hid hs3
     have HC3:=Lib.hid hc3
     have HV3:=Lib.hid hv3
     have HB3:=Lib.hid hb
     clear hs3 hc3 hv3 hb
     go_wp2
     go_roundg (x % y)
     case measure=>omega
     case rel=>
      refine⟨y,x % y,Nat.le_refl _,?_,⟨_,_,_,_,rfl,HS2.out.mono HB3.out,HC2.out,HV2.out,hn2⟩,⟨_,_,_,_,rfl,HS3.out,HC3.out,HV3.out,hn3⟩,HBE.out.trans (HB3.out.mono HBE.out.size)⟩
      rw[←HGG.out,Nat.gcd_comm x y,Nat.gcd_rec y x,Nat.gcd_comm]
end Go.Proofs.YtidmjdmmpajooaaGreat
namespace Go.Proofs.YtidmjdmmpajooaaGreat
open Go.RowKit Dg
theorem b_size:(Tryz.prog.info? 115).map (fun i=>i.size)=some 2:=by kernel_rfl
theorem b_lies:liesAt Tryz.prog Tryz.prog.depth 115 (2 / Tryz.prog.cellsOf 115) 0 115 1=true:=by kernel_rfl
theorem b_byte:(Tryz.prog.info? 5).map (fun i=>(i.zero,i.size,i.bytes))=some (some (.int .u8 0),1,1):=by kernel_rfl
theorem jc3 (b:Nat) (w:World) (h0:w.cell? ⟨b,0,none⟩=some (.pointer (some ⟨b,0,none⟩))):
  Calls Tryz.prog 107 #[.pointer (some ⟨b,0,none⟩)] w fun e w'=>e=.returned (.tuple #[])∧w'=w:=by
 obtain⟨j,hj,_⟩:=Option.map_eq_some_iff.1 b_size
 go_enter Tryz.func107,Tryz.ntmps107
 go_wp2
 rw[Lib.run_neq_ptr_same w _ Tryz.underlying112 hj]
 go_wp2
 go_end0
 exact⟨rfl,rfl⟩
theorem zr (b:Nat) (w:World) (h0:w.cell? ⟨b,0,none⟩=some (.pointer none)) (hsh:w.shape? b=some (115,2)) (hfz:w.frozen? ⟨b,0,none⟩=false):
  Calls Tryz.prog 107 #[.pointer (some ⟨b,0,none⟩)] w fun e w'=>e=.returned (.tuple #[])∧w'=w.setCell ⟨b,0,none⟩ (.pointer (some ⟨b,0,none⟩)):=by
 obtain⟨j,hj,hjs⟩:=Option.map_eq_some_iff.1 b_size
 go_enter Tryz.func107,Tryz.ntmps107
 go_wp2
 rw[Lib.run_to_unsafe w ⟨b,0,none⟩ Tryz.underlying112 Tryz.underlying169 hj (by rw[hjs];decide) hsh (Nat.zero_lt_succ 1)]
 simp only[Result.andThen]
 rw[Oper.upon_value]
 go_wp2
 rw[run_callFunc_extern Tryz.func133 (by kernel_rfl) (by kernel_rfl) (by kernel_rfl) (e:=Extern.AbiNoEscape.same) (by kernel_rfl)]
 rw[Lib.run_noEscape]
 simp only[Result.andThen]
 rw[Oper.upon_value]
 go_wp2
 rw[Lib.run_from_unsafe w ⟨b,0,none⟩ Tryz.underlying169 Tryz.underlying112 hj hsh b_lies]
 simp only[Result.andThen]
 rw[Oper.upon_value]
 go_wp2
 go_end0
 exact⟨rfl,rfl⟩
theorem copyCheck (B b:Nat) (bs:List Value) (w:World) (h:Lib.IsBuilder 115 5 B b bs w):
  Calls Tryz.prog 107 #[.pointer (some ⟨b,0,none⟩)] w fun e w'=>e=.returned (.tuple #[])∧(Lib.BuilderAt 115 5 B b (.pointer (some ⟨b,0,none⟩)) bs w'∧Below B w w'):=by
 rcases h with h|h
 ·refine (zr b w h.cell0 h.shape h.frozen0).mono ?_
  rintro e w' ⟨rfl,rfl⟩
  exact⟨rfl,h.used _,(Below.refl B w).setCell (p:=⟨b,0,none⟩) h.1 _⟩
 ·refine (jc3 b w h.cell0).mono ?_
  rintro e w' ⟨rfl,rfl⟩
  exact⟨rfl,h,Below.refl B _⟩
theorem writeString (B b:Nat) (bs:List Value) (s:ByteArray) (w:World) (h:Lib.IsBuilder 115 5 B b bs w) (hlen:bs.length + s.size≤140737488355328) (hBw:B≤w.heap.size):
  Calls Tryz.prog 83 #[.pointer (some ⟨b,0,none⟩),.string s] w fun e w'=>e=.returned (.tuple #[.int .i64 s.size,.nilIface])∧(Lib.BuilderAt 115 5 B b (.pointer (some ⟨b,0,none⟩)) (bs ++ Lib.strCells s) w'∧Below B w w'):=by
 obtain⟨i0,hi,hz0,hz1,hz2⟩:=info_parts b_byte
 go_enter Tryz.func83,Tryz.ntmps83
 go_wp2_with fail
 refine (copyCheck B b bs _ h).mono ?_
 rintro e w1 ⟨rfl,h1,hb1⟩
 obtain⟨hB,v,hbk,hown,hne⟩:=h1
 have c0:w1.cell? ⟨b,0,none⟩=some (.pointer (some ⟨b,0,none⟩)):=by rw[Lib.cell_of_heap hbk];rfl
 have c1:w1.cell? ⟨b,1,none⟩=some v:=by rw[Lib.cell_of_heap hbk];rfl
 go_wp2_with (at_builtin;refine Lib.wpList_append_own_string _ rfl _ _ 113 9 rfl B 5 i0 Tryz.underlying113 Tryz.underlying9 hi hz0 hz1 hz2 _ _ _ rfl hown s rfl ?c3 ?c4 ?c5 ?_)
 case c3=>unfold maxLen;omega
 case c4=>omega
 case c5=>have:=hb1.size;omega
 intro v' w2 hown' hgrow _
 have hlt:b < w1.heap.size:=by
  rcases Nat.lt_or_ge b w1.heap.size with h'|h'
  ·exact h'
  ·simp[Array.getElem?_eq_none h'] at hbk
 have hb2:w2.heap[b]?=some (.cells #[.pointer (some ⟨b,0,none⟩),v] 115 (0,0)):=by
  rw[hgrow.block b hlt (fun e=>hne e.symm)]
  exact hbk
 have d0:w2.cell? ⟨b,0,none⟩=some (.pointer (some ⟨b,0,none⟩)):=by rw[Lib.cell_of_heap hb2];rfl
 have d1:w2.cell? ⟨b,1,none⟩=some v:=by rw[Lib.cell_of_heap hb2];rfl
 have f1:w2.frozen? ⟨b,1,none⟩=false:=Lib.frozen_of_heap hb2 1
 obtain⟨ao,n',cap,rfl⟩:∃ao n' cap,v'=.slice ao n' cap:=by
  rcases hown'.2 with ⟨hv,_⟩|⟨g,cap,cur,hv,_⟩
  ·exact⟨_,_,_,hv⟩
  ·exact⟨_,_,_,hv⟩
 go_wp2
 go_ret2
 refine⟨rfl,?_,?_⟩
 ·exact Lib.BuilderAt.put (T:=115) (e:=5) hB hb2 (bs':=bs ++ Lib.strCells s) (by simpa [Lib.strCells_length] using hown') (by decide)
 ·exact (hb1.grown hgrow (by have:=hb1.size;omega) (fun k hk=>(hown.lt k hk).1)).setCell (p:=⟨b,1,none⟩) hB _
end Go.Proofs.YtidmjdmmpajooaaGreat
namespace Go.Proofs.YtidmjdmmpajooaaGreat
open Go.RowKit Dg
theorem dgs_len (k : Nat) : ∀ n, n < 10 ^ k → (dgs n).length ≤ k := by
  induction k with
  | zero => intro n h; have : n = 0 := by simpa using h
            subst this; rw [gj]; exact Nat.le_refl _
  | succ k ih =>
    intro n h
    by_cases h0 : n = 0
    · subst h0; rw [gj]; exact Nat.zero_le _
    · rw [jc h0, List.length_append, List.length_singleton]
      have := ih (n / 10) (by rw [Nat.pow_succ] at h; omega)
      omega
theorem pad_zeros : ∀ (k n : Nat), n < 10 ^ k → pad k n = List.replicate (k - (dgs n).length) 48 ++ dgs n
  | 0, n, h => by
    have : n = 0 := by simpa using h
    subst this; rw [gj]; rfl
  | k + 1, n, h => by
    rw [pad, pad_zeros k (n / 10) (by rw [Nat.pow_succ] at h; omega)]
    by_cases h0 : n = 0
    · subst h0
      rw [show (0 : Nat) / 10 = 0 from rfl, gj, List.append_nil, List.append_nil]
      simp only [List.length_nil, Nat.sub_zero, Nat.zero_mod, Nat.add_zero]
      rw [List.replicate_succ']
      rfl
    · rw [jc h0, List.length_append, List.length_singleton, List.append_assoc]
      congr 2
      omega
theorem byte_digit (n : Nat) : (UInt8.ofNat (48 + n % 10)).toNat = 48 + n % 10 := by
  have : n % 10 < 10 := Nat.mod_lt _ (by omega)
  simp
  omega
def RetS (w : World) (l : List UInt8) (e : Ending) (w' : World) : Prop := e = .returned (.string ⟨l.toArray⟩) ∧ Below w.heap.size w w'
theorem zs (n : Nat) (w : World) (hn : n < 18446744073709551616) : Calls Tryz.prog 81 #[.int .u64 n] w (RetS w (dgs n)) := by
  have hlen := dgs_len 20 n (by omega)
  generalize hD : dgs n = D at *
  have HD := Lib.hid hD; clear hD
  have hb0 : Blk .u8 137 (w.alloc (.cells (U .u8 (List.replicate 20 0)) 137)) w.heap.size (List.replicate 20 0) := Blk.new .u8 _ w _
  have HB0 := Lib.hid hb0; clear hb0
  go_enter Tryz.func81, Tryz.ntmps81
  go_wp2
  go_loopw [0, 4] (fun nv av wr => ∃ (m k : Nat) (L : List Nat) (t : List UInt8), nv = .int .u64 m ∧ av = .int .i64 k ∧ k ≤ 20 ∧ m < 18446744073709551616 ∧ Blk .u8 137 wr w.heap.size L ∧ L.length = 20 ∧ L.drop k = t.map UInt8.toNat ∧ dgs m ++ t = D ∧ (dgs m).length ≤ k ∧ Below w.heap.size w wr) (fun nv _ _ => (intOf nv).toNat)
  case atStart => exact ⟨n, 20, _, [], rfl, rfl, Nat.le_refl _, hn, HB0.out, by simp, by simp, by rw [List.append_nil]; exact HD.out, by rw [HD.out]; exact hlen, (Below.refl _ _).alloc (Nat.le_refl _) _⟩
  case round =>
    obtain ⟨m, k, L, t, rfl, rfl, hk, hm, hblk, hL, hdrop, hdg, hlk, hbel⟩ := hrel
    have HB := Lib.hid hblk
    have HL := Lib.hid hL
    have HDR := Lib.hid hdrop
    have HDG := Lib.hid hdg
    have HLK := Lib.hid hlk
    have HBE := Lib.hid hbel
    clear hblk hL hdrop hdg hlk hbel HB0 hlen
    by_cases h0 : m = 0
    · subst h0
      have htl : t.length = 20 - k := by
        have := congrArg List.length HDR.out
        rw [List.length_drop, HL.out, List.length_map] at this
        omega
      have hconv := run_convert_bytes_back (P := Tryz.prog) wr 113 9 5 ⟨w.heap.size, k, none⟩ (20 - k) t Tryz.underlying113 Tryz.underlying5 Tryz.underlying9 (by
        intro j hj
        rw [iy, HB.out.cell (by rw [HL.out]; omega)]
        have h1 : (L.drop k)[j]?.getD 0 = t[j].toNat := by rw [HDR.out]; simp [List.getElem?_eq_getElem hj]
        rw [List.getElem?_drop] at h1
        rw [h1])
      rw [htl] at hconv
      have HTL := Lib.hid htl
      clear htl
      by_cases hk20 : k = 20
      · subst hk20
        have hc0 := run_convert_bytes_back (P := Tryz.prog) wr 113 9 5 ⟨w.heap.size, 0, none⟩ 0 [] Tryz.underlying113 Tryz.underlying5 Tryz.underlying9 (by intro j hj; simp at hj)
        rw [List.length_nil] at hc0
        clear hconv
        go_wp2
        go_ret
        refine ⟨?_, HBE.out⟩
        have h1 := HTL.out
        obtain rfl : t = [] := List.length_eq_zero_iff.1 (by omega)
        have h2 := HDG.out
        rw [gj] at h2
        rw [← h2]
        rfl
      · have hbd : (k : Int) ≤ 20 := by omega
        have hk20' : ¬ 20 = k := by omega
        go_wp2
        go_ret
        refine ⟨?_, HBE.out⟩
        have h2 := HDG.out
        rw [gj, List.nil_append] at h2
        rw [← h2]
        rfl
    · have hpos : 0 < (m : Int) := by omega
      have hk1 : 1 ≤ k := by
        have := HLK.out
        rw [jc h0, List.length_append, List.length_singleton] at this
        omega
      have hcell := HB.out.cell (j := k - 1) (by rw [HL.out]; omega)
      have hfree := HB.out.free (k - 1)
      have hset := HB.out.set (k - 1) (48 + m % 10)
      have HSET := Lib.hid hset
      clear hset
      have hbd : (k : Int) - 1 < 20 := by omega
      go_wp2
      go_roundw
      case rel =>
        refine ⟨m / 10, k - 1, L.set (k - 1) (48 + m % 10), UInt8.ofNat (48 + m % 10) :: t, by simp, by congr 1; omega, by omega, by omega, ?_, by rw [List.length_set]; exact HL.out, ?_, ?_, ?_, HBE.out.setCell (Nat.le_refl _) _⟩
        · have := HSET.out
          simpa using this
        · have e : L.drop k = (L.set (k - 1) (48 + m % 10)).drop k := (yz (by omega)).symm
          rw [List.drop_eq_getElem_cons (by rw [List.length_set, HL.out]; omega), show k - 1 + 1 = k from by omega, ← e, HDR.out, List.getElem_set_self, List.map_cons, byte_digit]
        · have := HDG.out
          rw [jc h0, List.append_assoc] at this
          exact this
        · have := HLK.out
          rw [jc h0, List.length_append, List.length_singleton] at this
          omega
      all_goals first | (simp [intOf]; done) | (simp [intOf]; omega)
end Go.Proofs.YtidmjdmmpajooaaGreat
namespace Go.Proofs.YtidmjdmmpajooaaGreat
open Go.RowKit Dg
theorem zeros_cut : ∀ k : Nat, k < 20 → (ByteArray.mk #[48, 48, 48, 48, 48, 48, 48, 48, 48, 48, 48, 48, 48, 48, 48, 48, 48, 48, 48, 48, 48, 48, 48, 48, 48, 48, 48, 48, 48, 48, 48, 48, 48, 48, 48, 48, 48, 48, 48, 48, 48, 48, 48, 48, 48, 48, 48, 48, 48, 48, 48, 48, 48, 48, 48, 48, 48, 48, 48, 48, 48, 48, 48, 48]).extract 0 k = ⟨(List.replicate k 48).toArray⟩ := by decide
theorem hp_ne (s : ByteArray) (w : World) (h : s.data.toList.head? = some 48 → False) : Calls Tryz.prog 104 #[.string s, .string ⟨#[48]⟩] w fun e w' => e = .returned (.bool false) ∧ w = w' := by
  refine (Tryz.strings_HasPrefix s ⟨#[48]⟩ w).mono ?_
  rintro e w' ⟨rfl, rfl⟩
  refine ⟨?_, rfl⟩
  have : Lib.hasPrefix s.data.toList [48] = false := by
    cases hs : s.data.toList with
    | nil => rfl
    | cons c r => rw [hs] at h; show (48 == c && List.isPrefixOf [] r) = false; rw [beq_eq_false_iff_ne.2 (fun e => h (by rw [← e]; rfl))]; rfl
  rw [this]
theorem hp_eq (s : ByteArray) (w : World) (h : s.data.toList.head? = some 48) : Calls Tryz.prog 104 #[.string s, .string ⟨#[48]⟩] w fun e w' => e = .returned (.bool true) ∧ w = w' := by
  refine (Tryz.strings_HasPrefix s ⟨#[48]⟩ w).mono ?_
  rintro e w' ⟨rfl, rfl⟩
  refine ⟨?_, rfl⟩
  have : Lib.hasPrefix s.data.toList [48] = true := by
    cases hs : s.data.toList with
    | nil => rw [hs] at h; cases h
    | cons c r => rw [hs] at h; have e : c = 48 := by simpa using h
                  rw [e]; rfl
  rw [this]
theorem repeat0 (k : Nat) (hk : k ≤ 19) (w : World) : Calls Tryz.prog 82 #[.string ⟨#[48]⟩, .int .i64 k] w fun e w' => e = .returned (.string ⟨(List.replicate k 48).toArray⟩) ∧ w' = w := by
  by_cases h0 : k = 0
  · subst h0
    go_enter Tryz.func82, Tryz.ntmps82
    go_wp2
    go_ret
    exact ⟨rfl, rfl⟩
  · by_cases h1 : k = 1
    · subst h1
      go_enter Tryz.func82, Tryz.ntmps82
      go_wp2
      go_ret
      exact ⟨rfl, rfl⟩
    · have h0' : ((k : Int) == 0) = false := by rw [beq_eq_false_iff_ne]; omega
      have h1' : ((k : Int) == 1) = false := by rw [beq_eq_false_iff_ne]; omega
      have hcut := zeros_cut k (by omega)
      generalize hR : (⟨(List.replicate k 48).toArray⟩ : ByteArray) = R at *
      clear h0 h1
      go_enter Tryz.func82, Tryz.ntmps82
      go_wp2_with fail
      have hmul := Tryz.bits_Mul 1 k (by omega) (by omega) w
      rw [show 1 * k / 18446744073709551616 = 0 from by omega, show 1 * k % 18446744073709551616 = k from by omega] at hmul
      refine hmul.mono ?_
      clear hmul
      rintro e w' ⟨rfl, rfl⟩
      have hb : (k : Int) ≤ 19 := by omega
      have hb' : (k : Int) ≤ 9223372036854775807 := by omega
      go_wp2_with fail
      refine (hp_ne _ _ (by decide)).mono ?_
      rintro e w' ⟨rfl, rfl⟩
      go_wp2_with fail
      refine (hp_ne _ _ (by decide)).mono ?_
      rintro e w' ⟨rfl, rfl⟩
      go_wp2_with fail
      refine (hp_eq _ _ (by decide)).mono ?_
      rintro e w' ⟨rfl, rfl⟩
      go_wp2
      go_ret
      exact ⟨rfl, rfl⟩
end Go.Proofs.YtidmjdmmpajooaaGreat
namespace Go.Proofs.YtidmjdmmpajooaaGreat
open Go.RowKit Dg
def ib (l:List UInt8):Value:=.string ⟨l.toArray⟩
end Go.Proofs.YtidmjdmmpajooaaGreat
