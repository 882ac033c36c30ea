/-
  The contracts of the program's naturals, sixth part: byWord, take.
-/
import Derived.Test.YtidmjdmmpajooaaGreatPkV5N
import Derived.Test.YtidmjdmmpajooaaGreatPkV3N
import Derived.Test.YtidmjdmmpajooaaGreatPkV1N
import Derived.Deep.QuietTactic
import Derived.BigQuiet
import Derived.Deep.LoopGhost
set_option linter.unusedSimpArgs false
set_option linter.unusedVariables false
set_option maxRecDepth 100000
set_option maxHeartbeats 4000000
namespace Go.Proofs.YtidmjdmmpajooaaGreat
open Go.RowKit Dg
theorem tc (ao:Option Addr) (n c:Nat) (l:List Nat) (d:Nat) (w:World) (hs:Sl .u64 w ao n c l) (hd:cj 18446744073709551616 l) (h0:0 < d) (h1:d < 18446744073709551616) (hn:n≤1099511627776):
  Calls Tryz.prog 80 #[.slice ao n c,.int .u64 d] w (RetNatD .u64 18446744073709551616 w (val 18446744073709551616 l / d) (val 18446744073709551616 l % d)):=by
 have HS:=Lib.hid hs;clear hs
 have HD:=Lib.hid hd;clear hd
 obtain⟨i0,hi,hz0,hz1,hz2⟩:=info_parts kh
 go_enter Tryz.func80,Tryz.ntmps80
 go_wp2_with (at_make;refine co _ rfl _ _ 35 rfl 95 i0 .u64 Tryz.underlying35 hi hz0 hz1 _ _ _ _ n n rfl rfl rfl rfl (Nat.le_refl _) ?c3 ?c4 ?_)
 case c3=>rw[hz2];omega
 case c4=>omega
 go_loopw [7,8] (fun rv iv wr=>∃(k rest:Nat) (ol:List Nat),k≤n∧iv=.int .i64 ((k:Int) - 1)∧rv=.int .u64 rest∧rest < d∧Blk .u64 95 wr w.heap.size ol∧ol.length=n∧cj 18446744073709551616 ol∧
   val 18446744073709551616 (l.drop k)=val 18446744073709551616 (ol.drop k) * d + rest∧Below w.heap.size w wr) (fun _ iv _=>(intOf iv + 1).toNat)
 case atStart=>exact⟨n,0,_,Nat.le_refl _,rfl,rfl,by omega,Blk.new .u64 _ w _,by simp,cj.zeros (by omega) _,by rw[List.drop_of_length_le (by rw[HS.out.len];omega),List.drop_of_length_le (by simp)];simp[val],(Below.refl _ _).alloc (Nat.le_refl _) _⟩
 case round=>
  obtain⟨k,rest,ol,hk,rfl,rfl,hrd,hblk,hol,hdo,hval,hbel⟩:=hrel
  have e1:=(HS.out).mono hbel
  have HB:=Lib.hid hblk
  have HO:=Lib.hid hol
  have HV:=Lib.hid hval
  have HDO:=Lib.hid hdo
  have HBE:=Lib.hid hbel
  have HE1:=Lib.hid e1
  clear hblk hol hval hdo hbel e1
  cases k with
  | zero=>
   rw[show ((0:Nat):Int) - 1= -1 from rfl]
   go_wp2_with fail
   refine (gw _ _ _ ol _ (by have:=HB.out.sl (by have:=HO.out;omega);rw[HO.out] at this;exact this) HDO.out).mono ?_
   rintro e w' ⟨j,hj,hcj,hvj,rfl,rfl⟩
   go_wp2
   go_ret2
   have hv:=HV.out
   rw[List.drop_zero,List.drop_zero] at hv
   have:=nf hv.symm hrd
   refine⟨_,by rw[←this.2];rfl,⟨_,_,_,_,rfl,(by have:=HB.out.sl (by have:=HO.out;omega);rw[HO.out] at this;exact this.take j hj),hcj,?_⟩,HBE.out⟩
   rw[hvj,←this.1]
  | succ k=>
   rw[show ((k + 1:Nat):Int) - 1=(k:Int) from by omega]
   have d1:=HD.out.get (by omega) k
   obtain⟨b1,o1,rfl,hc1⟩:=HE1.out.at (i:=k) (by omega)
   have x1:=xx hrd d1
   have hst:=div_step _ d _ _ _ _ (by rw[HS.out.len];omega) (by rw[HO.out];omega) HV.out
   have HX1:=Lib.hid x1
   have HST:=Lib.hid hst
   clear x1 hst
   go_wp2_with fail
   refine (div64 rest (l[k]?.getD 0) d _ hrd h1 d1).mono ?_
   rintro e w' ⟨q,r,rfl,⟨m,rfl⟩,hqr,hrlt⟩
   have hq:=nf hqr hrlt
   have HQ:=Lib.hid hq
   have HBL:=Lib.hid (HB.out.drewN m)
   clear hq hqr
   have hcell:=HBL.out.cell (j:=k) (by have:=HO.out;omega)
   have hfree:=HBL.out.free k
   go_wp2
   go_roundw
   case rel=>
    refine⟨k,r,ol.set k q,by omega,rfl,rfl,hrlt,HBL.out.set _ _,by rw[List.length_set];exact HO.out,HDO.out.set _ _ (by rw[HQ.out.1];exact HX1.out),?_,(it HBE.out m).setCell (Nat.le_refl _) _⟩
    rw[HQ.out.1,HQ.out.2]
    exact HST.out
   all_goals first|(simp[intOf];done)|(simp[intOf];omega)
end Go.Proofs.YtidmjdmmpajooaaGreat
namespace Go.Proofs.YtidmjdmmpajooaaGreat
open Go.RowKit Dg
end Go.Proofs.YtidmjdmmpajooaaGreat
namespace Go.Proofs.YtidmjdmmpajooaaGreat
open Go.RowKit Dg
end Go.Proofs.YtidmjdmmpajooaaGreat
namespace Go.Proofs.YtidmjdmmpajooaaGreat
open Go.RowKit Dg
def pu (k:IntKind) (B:Nat) (w:World) (x y:Nat) (e:Ending) (w':World):Prop:=
 ∃v1 v2,e=.returned (.tuple #[v1,v2])∧ck k B w' v1 x∧ck k B w' v2 y∧Below w.heap.size w w'
theorem ub {x y:Nat} (h:y≤x):0≤gn x y:=by unfold gn;rw[if_neg (by omega)];split<;>omega
theorem ws {x y:Nat} (h:x < y):gn x y < 0:=by unfold gn;rw[if_pos h];omega
def uw (k:IntKind) (B K:Nat) (w:World) (v:Value) (x:Nat):Prop:=∃ao n c l,v=.slice ao n c∧Sl k w ao n c l∧bi B l∧val B l=x∧n≤K
end Go.Proofs.YtidmjdmmpajooaaGreat
namespace Go.Proofs.YtidmjdmmpajooaaGreat
open Go.RowKit Dg
def RetTake (w:World) (g n q:Nat) (A ol C:List Nat) (r:List Value) (V:Nat) (e:Ending) (w':World):Prop:=
 ∃ol',((val 18446744073709551616 ol < q * V∧e=.returned (.bool false)∧ol'=ol)∨
   (q * V≤val 18446744073709551616 ol∧e=.returned (.bool true)∧ol'.length=n + 1∧cj 18446744073709551616 ol'∧val 18446744073709551616 ol'=val 18446744073709551616 ol - q * V))∧
  iz .u64 95 w' g (A ++ ol' ++ C) r∧Only g w w'
theorem take_step (lv pl:List Nat) (k carry q hi lo x:Nat) (hk:k < pl.length) (hx:lv[k]?.getD 0=x) (hp:hi * 18446744073709551616 + lo=x * q)
  (h:val 18446744073709551616 (pl.take k) + carry * 18446744073709551616 ^ k=q * val 18446744073709551616 (lv.take k)):
  val 18446744073709551616 ((pl.set k ((lo + carry) % 18446744073709551616)).take (k + 1)) + (hi + (lo + carry) / 18446744073709551616) * 18446744073709551616 ^ (k + 1)=q * val 18446744073709551616 (lv.take (k + 1)):=by
 rw[gh _ _ _ _ hk,dj,hx,Nat.pow_succ]
 have h1:=Nat.div_add_mod (lo + carry) 18446744073709551616
 generalize (lo + carry) / 18446744073709551616=c at *
 generalize (lo + carry) % 18446744073709551616=d at *
 generalize val 18446744073709551616 (pl.take k)=X at *
 generalize val 18446744073709551616 (lv.take k)=Y at *
 generalize (18446744073709551616:Nat) ^ k=P at *
 have h2:P * (hi * 18446744073709551616 + lo)=P * (x * q):=by rw[hp]
 have h3:P * (18446744073709551616 * c + d)=P * (lo + carry):=by rw[h1]
 rw[Nat.mul_add] at h2 h3
 grind
theorem l_take_calls (g n cu cv q:Nat) (vo:Option Addr) (A ol C lv:List Nat) (r:List Value) (w:World) (hb:iz .u64 95 w g (A ++ ol ++ C) r) (hol:ol.length=n + 1) (hdo:cj 18446744073709551616 ol)
  (hcu:n + 1≤cu) (hcm:cu≤9223372036854775807) (hv:Sl .u64 w vo n cv lv) (hdv:cj 18446744073709551616 lv) (haw:ry g (.slice vo n cv)) (hq:q < 18446744073709551616) (hn:n≤1099511627776):
  Calls Tryz.prog 121 #[.slice (some ⟨g,A.length,none⟩) (n + 1) cu,.slice vo n cv,.int .u64 q] w (RetTake w g n q A ol C r (val 18446744073709551616 lv)):=by
 have hg:=hb.lt
 have HB:=Lib.hid hb;clear hb
 have HOL:=Lib.hid hol;clear hol
 have HDO:=Lib.hid hdo;clear hdo
 have HV:=Lib.hid hv;clear hv
 have HDV:=Lib.hid hdv;clear hdv
 have HAW:=Lib.hid haw;clear haw
 generalize hjA:A.length=j at *
 have HJ:=Lib.hid hjA;clear hjA
 obtain⟨i0,hi,hz0,hz1,hz2⟩:=info_parts kh
 go_enter Tryz.func121,Tryz.ntmps121
 go_wp2_with (at_make;refine co _ rfl _ _ 35 rfl 95 i0 .u64 Tryz.underlying35 hi hz0 hz1 _ _ _ _ (n + 1) (n + 1) rfl rfl ?c1 ?c2 (Nat.le_refl _) ?c3 ?c4 ?_)
 case c1=>omega
 case c2=>omega
 case c3=>rw[hz2];omega
 case c4=>omega
 go_loopw [8,22] (fun cv iv wr=>∃(k carry:Nat) (pl:List Nat),k≤n∧iv=.int .i64 k∧cv=.int .u64 carry∧carry < 18446744073709551616∧Blk .u64 95 wr w.heap.size pl∧pl.length=n + 1∧cj 18446744073709551616 pl∧
   val 18446744073709551616 (pl.take k) + carry * 18446744073709551616 ^ k=q * val 18446744073709551616 (lv.take k)∧Below w.heap.size w wr) (fun _ iv _=>n - (intOf iv).toNat)
 case atStart=>exact⟨0,0,_,by omega,rfl,rfl,by omega,Blk.new .u64 _ w _,by simp,cj.zeros (by omega) _,by simp[val],(Below.refl _ _).alloc (Nat.le_refl _) _⟩
 case round=>
  obtain⟨k,carry,pl,hk,rfl,rfl,hca,hblk,hpl,hdp,hval,hbel⟩:=hrel
  have HBP:=Lib.hid hblk
  have HPL:=Lib.hid hpl
  have HDP:=Lib.hid hdp
  have HVAL:=Lib.hid hval
  have HBE:=Lib.hid hbel
  have HE:=Lib.hid (HV.out.mono hbel)
  have d1:=HDV.out.get (by omega) k
  clear hblk hpl hdp hval hbel
  by_cases hkn:k < n
  ·obtain⟨b1,o1,rfl,hc1⟩:=HE.out.at hkn
   have hc2:=HBP.out.cell (j:=k) (by have:=HPL.out;omega)
   have hf2:=HBP.out.free k
   go_wp2_with fail
   refine (mul64 (lv[k]?.getD 0) q d1 hq _).mono ?_
   rintro e w' ⟨hi,lo,rfl,rfl,hp,hlo,hhi⟩
   have hprod:lv[k]?.getD 0 * q≤18446744073709551615 * 18446744073709551615:=Nat.mul_le_mul (by omega) (by omega)
   have hst:=take_step lv pl k carry q hi lo _ (by rw[HPL.out];omega) rfl hp HVAL.out
   have HST:=Lib.hid hst
   rw[←hp] at hprod
   clear hp hst
   have A1:=uy (lo:Int) (carry:Int) (by omega) (by omega)
   have hT:(hi:Int) + ((lo:Int) + (carry:Int)) / 18446744073709551616 < 18446744073709551616:=by omega
   go_wp2
   go_roundw
   case rel=>
    refine⟨k + 1,hi + (lo + carry) / 18446744073709551616,pl.set k ((lo + carry) % 18446744073709551616),by omega,by go_num,by simp,by omega,?_,by rw[List.length_set];exact HPL.out,HDP.out.set _ _ (Nat.mod_lt _ (by omega)),HST.out,HBE.out.setCell (Nat.le_refl _) _⟩
    exact HBP.out.set _ _
   all_goals first|(simp[intOf];done)|(simp[intOf];omega)
  ·obtain rfl:k=n:=by omega
   have hc2:=HBP.out.cell (j:=k) (by have:=HPL.out;omega)
   have hf2:=HBP.out.free k
   have hblk2:=HBP.out.set k carry
   have hv2:val 18446744073709551616 (pl.set k carry)=q * val 18446744073709551616 lv:=by
    have h1:=gh 18446744073709551616 pl k carry (by rw[HPL.out];omega)
    rw[bg _ _ (k + 1) (by rw[List.length_set,HPL.out];omega)] at h1
    rw[h1,Nat.mul_comm _ carry,HVAL.out,bg _ lv k (by have:=HV.out.len;omega)]
   have hd2:=HDP.out.set k carry hca
   have hl2:(pl.set k carry).length=k + 1:=by rw[List.length_set];exact HPL.out
   have hbe2:=HBE.out.setCell (p:=⟨w.heap.size,k,none⟩) (Nat.le_refl _) (.int .u64 (carry:Int))
   clear HBP HPL HDP HVAL HBE
   generalize pl.set k carry=pl2 at *
   have HBP:=Lib.hid hblk2
   have HV2:=Lib.hid hv2
   have HD2:=Lib.hid hd2
   have HL2:=Lib.hid hl2
   have HBE:=Lib.hid hbe2
   clear hblk2 hv2 hd2 hl2 hbe2
   go_wp2_with fail
   have hbb:=HB.out.below HBE.out
   have hslu:=hbb.sl cu (by rw[HOL.out];omega) hcm
   rw[HOL.out,HJ.out] at hslu
   have hslp:=HBP.out.sl (by have:=HL2.out;omega)
   rw[HL2.out] at hslp
   refine (gw _ _ _ ol _ hslu HDO.out).mono ?_
   rintro e w' ⟨m1,hm1,hcan1,hval1,rfl,rfl⟩
   have HS1:=Lib.hid (hslu.take m1 hm1)
   have HBB:=Lib.hid hbb
   clear hslu hbb
   go_wp2_with fail
   refine (gw _ _ _ pl2 _ hslp HD2.out).mono ?_
   rintro e w' ⟨m2,hm2,hcan2,hval2,rfl,rfl⟩
   have HS2:=Lib.hid (hslp.take m2 hm2)
   clear hslp
   go_wp2_with fail
   refine (mj _ _ _ _ _ _ _ _ _ HS1.out HS2.out hcan1 hcan2).mono ?_
   rintro e w' ⟨nq,rfl,rfl⟩
   rw[hval1,hval2,HV2.out]
   clear hval1 hval2 hcan1 hcan2 HS1 HS2
   generalize (wr.setCell ⟨w.heap.size,k,none⟩ (.int .u64 (carry:Int)))=w1 at *
   by_cases hlt:val 18446744073709551616 ol < q * val 18446744073709551616 lv
   ·have hord:=ws hlt
    have HLT:=Lib.hid hlt
    clear hlt
    go_wp2
    go_ret
    exact⟨ol,.inl ⟨HLT.out,rfl,rfl⟩,HBB.out.drewN nq,(Only.of_below HBE.out).drawN nq⟩
   ·have hord:=ub (show q * val 18446744073709551616 lv≤val 18446744073709551616 ol by omega)
    have HLE:=Lib.hid (show q * val 18446744073709551616 lv≤val 18446744073709551616 ol by omega)
    have HNE:=Lib.hid (show w.heap.size≠g by omega)
    clear hlt
    go_wp2
    go_loopw [14,59] (fun cv iv wr=>∃(i borrow:Nat) (o2:List Nat),i≤k + 1∧iv=.int .i64 i∧cv=.int .u64 borrow∧borrow≤1∧iz .u64 95 wr g (A ++ o2 ++ C) r∧o2.length=k + 1∧cj 18446744073709551616 o2∧(∀t,i≤t→o2[t]?.getD 0=ol[t]?.getD 0)∧
      val 18446744073709551616 (o2.take i) + val 18446744073709551616 (pl2.take i)=val 18446744073709551616 (ol.take i) + borrow * 18446744073709551616 ^ i∧Only g w wr∧Blk .u64 95 wr w.heap.size pl2) (fun _ iv _=>k + 1 - (intOf iv).toNat)
    case atStart=>exact⟨0,0,ol,by omega,rfl,rfl,by omega,HBB.out.drewN nq,HOL.out,HDO.out,fun _ _=>rfl,by simp[val],(Only.of_below HBE.out).drawN nq,HBP.out.drewN nq⟩
    case round=>
     obtain⟨i,borrow,o2,hi1,rfl,rfl,hbo,hbl,ho2,hd2,hsame,hval,honly,hbp⟩:=hrel
     by_cases hik:i < k + 1
     ·have hcu':(i:Int) < ((k + 1:Nat):Int):=by omega
      have hcell:=hbl.cell (j:=A.length + i) (by simp;omega)
      rw[get_mid _ _ _ _ (by omega),hsame i (Nat.le_refl _),HJ.out] at hcell
      have hfree:=hbl.free (j + i)
      have hcp:=hbp.cell (j:=i) (by rw[HL2.out];omega)
      have x1:=HDO.out.get (by omega) i
      have x2:=HD2.out.get (by omega) i
      have hset:∀y:Nat,iz .u64 95 (wr.setCell ⟨g,j + i,none⟩ (.int .u64 (y:Int))) g (A ++ o2.set i y ++ C) r:=by
       intro y
       have:=hbl.set (A.length + i) y (by simp;omega)
       rw[set_mid _ _ _ _ _ (by omega),HJ.out] at this
       exact this
      have fin:∀(wf:World) (x nb:Int),x=(((ol[i]?.getD 0:Nat):Int) - ((pl2[i]?.getD 0:Nat):Int) - borrow) % 18446744073709551616→nb=bor ((ol[i]?.getD 0:Nat):Int) ((pl2[i]?.getD 0:Nat):Int) borrow→wf=(wr.drew).setCell ⟨g,j + i,none⟩ (.int .u64 x)→
        ∃(i' borrow':Nat) (o2:List Nat),i'≤k + 1∧Value.int .i64 ((i:Int) + 1)=.int .i64 i'∧Value.int .u64 nb=.int .u64 borrow'∧borrow'≤1∧iz .u64 95 wf g (A ++ o2 ++ C) r∧o2.length=k + 1∧cj 18446744073709551616 o2∧(∀t,i'≤t→o2[t]?.getD 0=ol[t]?.getD 0)∧
        val 18446744073709551616 (o2.take i') + val 18446744073709551616 (pl2.take i')=val 18446744073709551616 (ol.take i') + borrow' * 18446744073709551616 ^ i'∧Only g w wf∧Blk .u64 95 wf w.heap.size pl2:=by
       intro wf x nb hx hnb hwf
       obtain⟨y,rfl⟩:=Int.eq_ofNat_of_zero_le (show 0≤x by omega)
       have hnb':nb=0∨nb=1:=by rw[hnb];unfold bor;split<;>simp
       obtain⟨nb,rfl⟩:=Int.eq_ofNat_of_zero_le (show 0≤nb by omega)
       have hx':y + (borrow + pl2[i]?.getD 0)=ol[i]?.getD 0 + nb * 18446744073709551616:=by
        unfold bor at hnb
        split at hnb<;>omega
       refine⟨i + 1,nb,o2.set i y,by omega,by go_num,rfl,by omega,?_,by rw[List.length_set];exact ho2,hd2.set _ _ (by omega),?_,?_,?_,?_⟩
       ·rw[hwf];exact hset y
       ·intro t ht
        rw[na _ _ _ _ (by omega),if_neg (by omega)]
        exact hsame t (by omega)
       ·exact jc6 _ _ _ _ _ borrow (by rw[ho2];exact hik) hval y y nb hx' rfl
       ·rw[hwf];exact honly.drew.setCell _ _
       ·rw[hwf];exact (hbp.drewN 1).only ((Only.refl g _).setCell (j + i) (.int .u64 (y:Int))) HNE.out
      have FIN:=Lib.hid fin
      clear fin hbl ho2 hd2 hsame hval honly hbp hset
      have A1:=sub64 ((ol[i]?.getD 0:Nat):Int) ((pl2[i]?.getD 0:Nat):Int) (borrow:Int) (by omega) (by omega) (by omega) (by omega) (by omega)
      go_wp2
      go_region
      go_wp2
      go_roundw
      case rel=>exact FIN.out _ _ _ rfl rfl rfl
      all_goals first|(simp[intOf];done)|(simp[intOf];omega)
     ·obtain rfl:i=k + 1:=by omega
      have hfin:val 18446744073709551616 o2=val 18446744073709551616 ol - q * val 18446744073709551616 lv:=by
       have:=dif_end (by omega) hd2 (l:=ol) (l':=pl2) (by rw[ho2,HOL.out]) (by rw[HL2.out,HOL.out];omega) (by rw[HV2.out];exact HLE.out) (by rw[ho2];exact hval)
       rw[HV2.out] at this
       exact this
      have FIN:=Lib.hid (show RetTake w g k q A ol C r (val 18446744073709551616 lv) (.returned (.bool true)) wr from ⟨o2,.inr ⟨HLE.out,rfl,ho2,hd2,hfin⟩,hbl,honly⟩)
      clear hbl ho2 hd2 hsame hval honly hbp hfin
      go_wp2
      go_ret
      exact FIN.out
end Go.Proofs.YtidmjdmmpajooaaGreat
namespace Go.Proofs.YtidmjdmmpajooaaGreat
open Go.RowKit Dg
theorem top2 {l:List Nat} {k:Nat} (h:l.length=k + 2):val 18446744073709551616 l=val 18446744073709551616 (l.take k) + 18446744073709551616 ^ k * (l[k]?.getD 0 + 18446744073709551616 * l[k+1]?.getD 0):=by
 have h1:=dn 18446744073709551616 l k (by omega)
 have h2:=dn 18446744073709551616 l (k + 1) (by omega)
 rw[bg _ l (k + 1 + 1) (by omega),h1,Nat.pow_succ] at h2
 rw[h2,Nat.mul_add,Nat.mul_assoc,Nat.add_assoc]
theorem top3 {l:List Nat} {k:Nat} (h:l.length=k + 3):val 18446744073709551616 l=val 18446744073709551616 (l.take k) + 18446744073709551616 ^ k * (l[k]?.getD 0 + 18446744073709551616 * (l[k+1]?.getD 0 + 18446744073709551616 * l[k+2]?.getD 0)):=by
 have h1:=dn 18446744073709551616 l k (by omega)
 have h2:=dn 18446744073709551616 l (k + 1) (by omega)
 have h3:=dn 18446744073709551616 l (k + 2) (by omega)
 rw[bg _ l (k + 2 + 1) (by omega),h2,h1] at h3
 rw[h3,show (18446744073709551616:Nat) ^ (k + 2)=18446744073709551616 ^ k * 18446744073709551616 * 18446744073709551616 from by rw[Nat.pow_succ,Nat.pow_succ],Nat.pow_succ]
 simp only[Nat.mul_add,Nat.mul_assoc,Nat.add_assoc]
theorem quo_first {B P U V low lowv u2 u1 un v2 v1 q r:Nat} (hU:U=low + P * (u2 + B * (u1 + B * un))) (hV:V=lowv + P * (v2 + B * v1)) (hlow:low < P) (hu2:u2 < B)
  (h:q * v1 + r=un * B + u1) (hr:r < v1) (hv0:0 < V):U / V≤q:=by
 apply Nat.le_of_lt_succ
 rw[Nat.div_lt_iff_lt_mul hv0]
 have h1:un * B + u1 + 1≤(q + 1) * v1:=by rw[Nat.add_mul];omega
 have h2:P * B * (un * B + u1 + 1)≤P * B * ((q + 1) * v1):=Nat.mul_le_mul_left _ h1
 have h3:P * (u2 + 1)≤P * B:=Nat.mul_le_mul_left _ hu2
 have h4:U < P * B * (un * B + u1 + 1):=by
  rw[hU]
  have e:P * (u2 + B * (u1 + B * un))=P * u2 + P * B * (un * B + u1):=by grind
  have e5:P * B * (un * B + u1 + 1)=P * B * (un * B + u1) + P * B:=Nat.mul_succ _ _
  have e6:P * (u2 + 1)=P * u2 + P:=Nat.mul_succ _ _
  omega
 have h5:P * B * ((q + 1) * v1)≤(q + 1) * V:=by
  rw[hV]
  have e:(q + 1) * (lowv + P * (v2 + B * v1))=(q + 1) * lowv + (q + 1) * (P * v2) + P * B * ((q + 1) * v1):=by grind
  omega
 show U < (q + 1) * V
 omega
theorem quo_lower {B P U V low lowv u2 u1 un v2 v1 q r:Nat} (hU:U=low + P * (u2 + B * (u1 + B * un))) (hV:V=lowv + P * (v2 + B * v1)) (hlow:low < P)
  (h:q * v1 + r=un * B + u1) (hbig:r * B + u2 < q * v2) (hv0:0 < V):U / V < q:=by
 rw[Nat.div_lt_iff_lt_mul hv0]
 have h1:P * (r * B + u2 + 1)≤P * (q * v2):=Nat.mul_le_mul_left _ hbig
 have e1:q * V=q * lowv + P * (q * v2) + P * B * (q * v1):=by rw[hV];grind
 have e2:P * B * (q * v1) + P * B * r=P * B * (un * B + u1):=by rw[←h];grind
 have e3:U=low + P * u2 + P * B * (un * B + u1):=by rw[hU];grind
 have e4:P * (r * B + u2 + 1)=P * B * r + P * u2 + P:=by grind
 omega
theorem div64q (hi lo y q r:Nat) (w:World) (hh:hi < y) (hy:y < 18446744073709551616) (hl:lo < 18446744073709551616) (h:q * y + r=hi * 18446744073709551616 + lo) (hr:r < y):
  Calls Tryz.prog 102 #[.int .u64 hi,.int .u64 lo,.int .u64 y] w fun e w'=>e=.returned (.tuple #[.int .u64 q,.int .u64 r])∧∃m,w'=w.drewN m:=by
 refine (div64 hi lo y w hh hy hl).mono ?_
 rintro e w' ⟨q',r',rfl,hw,h',hr'⟩
 have h1:=nf h hr
 have h2:=nf h' hr'
 rw[h1.1,h1.2,h2.1,h2.2]
 exact⟨rfl,hw⟩
theorem quiet_more {P:Program} {f:FuncId} {args:Array Value} {w:World} {a b:Nat} {v:Value}
  (h:Calls P f args (w.drewN (a + b)) fun e w'=>e=.returned v∧∃m,w'=(w.drewN (a + b)).drewN m):Calls P f args (w.drewN (a + b)) fun e w''=>e=.returned v∧∃n,w''=w.drewN (a + n):=
 h.mono fun _ _ ⟨he,m,hm⟩=>⟨he,b + m,by rw[hm,World.drewN_drewN,Nat.add_assoc]⟩
def RetDigit (w:World) (g n:Nat) (A ol C:List Nat) (r:List Value) (V:Nat) (e:Ending) (w':World):Prop:=
 ∃ol',e=.returned (.int .u64 ((val 18446744073709551616 ol / V:Nat):Int))∧ol'.length=n + 1∧cj 18446744073709551616 ol'∧val 18446744073709551616 ol'=val 18446744073709551616 ol % V∧
  iz .u64 95 w' g (A ++ ol' ++ C) r∧Only g w w'
theorem l_digit_calls (g n cu cv:Nat) (vo:Option Addr) (A ol C lv:List Nat) (r:List Value) (w:World) (hb:iz .u64 95 w g (A ++ ol ++ C) r) (hol:ol.length=n + 1) (hdo:cj 18446744073709551616 ol)
  (hcu:n + 1≤cu) (hcm:cu≤9223372036854775807) (hv:Sl .u64 w vo n cv lv) (hdv:cj 18446744073709551616 lv) (haw:ry g (.slice vo n cv)) (hn2:2≤n) (hn:n≤1099511627776)
  (hv0:0 < lv[n - 1]?.getD 0) (hlt:val 18446744073709551616 ol < 18446744073709551616 * val 18446744073709551616 lv):
  Calls Tryz.prog 94 #[.slice (some ⟨g,A.length,none⟩) (n + 1) cu,.slice vo n cv] w (RetDigit w g n A ol C r (val 18446744073709551616 lv)):=by
 have hUe:val 18446744073709551616 ol=val 18446744073709551616 (ol.take (n - 2)) + 18446744073709551616 ^ (n - 2) * (ol[n - 2]?.getD 0 + 18446744073709551616 * (ol[n - 1]?.getD 0 + 18446744073709551616 * ol[n]?.getD 0)):=by
  obtain⟨k,rfl⟩:∃k,n=k + 2:=⟨n - 2,by omega⟩
  exact top3 hol
 have hVe:val 18446744073709551616 lv=val 18446744073709551616 (lv.take (n - 2)) + 18446744073709551616 ^ (n - 2) * (lv[n - 2]?.getD 0 + 18446744073709551616 * lv[n - 1]?.getD 0):=by
  obtain⟨k,rfl⟩:∃k,n=k + 2:=⟨n - 2,by omega⟩
  exact top2 hv.len
 have hlow:=gp (by omega) (hdo.take (n - 2))
 rw[List.length_take,hol,Nat.min_eq_left (by omega)] at hlow
 have u2lt:=hdo.get (by omega) (n - 2)
 have u1lt:=hdo.get (by omega) (n - 1)
 have unlt:=hdo.get (by omega) n
 have v2lt:=hdv.get (by omega) (n - 2)
 have v1lt:=hdv.get (by omega) (n - 1)
 have hVpos:0 < val 18446744073709551616 lv:=by
  rw[hVe]
  have:=Nat.pow_pos (n:=n - 2) (show 0 < 18446744073709551616 by omega)
  have:=Nat.mul_pos this (show 0 < lv[n - 2]?.getD 0 + 18446744073709551616 * lv[n - 1]?.getD 0 by omega)
  omega
 have hQlt:val 18446744073709551616 ol / val 18446744073709551616 lv < 18446744073709551616:=by rw[Nat.div_lt_iff_lt_mul hVpos];exact hlt
 have hfirst:=fun (q r:Nat)=>quo_first (q:=q) (r:=r) hUe hVe hlow u2lt
 have hlower:=fun (q r:Nat)=>quo_lower (q:=q) (r:=r) hUe hVe hlow
 have hcellu:=fun (t:Nat) (ht:t < n + 1)=>hb.cell (j:=A.length + t) (by simp;omega)
 have hcu:∀t,t < n + 1→w.cell? ⟨g,A.length + t,none⟩=some (.int .u64 ((ol[t]?.getD 0:Nat):Int)):=by
  intro t ht
  have:=hcellu t ht
  rw[get_mid A ol C t (by omega)] at this
  exact this
 have cu0:=hcu (n - 2) (by omega)
 have cu1:=hcu (n - 1) (by omega)
 have cu2:=hcu n (by omega)
 obtain⟨bv,ov,rfl,hcv⟩:=hv.all (by omega)
 have cv0:=hcv (n - 2) (by omega)
 have cv1:=hcv (n - 1) (by omega)
 have HB:=Lib.hid hb
 have HOL:=Lib.hid hol
 have HDO:=Lib.hid hdo
 have HV:=Lib.hid hv
 have HDV:=Lib.hid hdv
 have HAW:=Lib.hid haw
 have HFIRST:=Lib.hid hfirst
 have HLOWER:=Lib.hid hlower
 have HVPOS:=Lib.hid hVpos
 generalize hQ:val 18446744073709551616 ol / val 18446744073709551616 lv=Q at *
 have HQ:=Lib.hid hQ
 clear hb hol hdo hv hdv haw hfirst hlower hVpos hcu hcellu hcv hUe hVe hlow hlt hQ
 generalize hjA:A.length=j at *
 have HJ:=Lib.hid hjA;clear hjA
 generalize hU2:ol[n - 2]?.getD 0=u2 at *
 generalize hU1:ol[n - 1]?.getD 0=u1 at *
 generalize hUn:ol[n]?.getD 0=un at *
 generalize hV2:lv[n - 2]?.getD 0=v2 at *
 generalize hV1:lv[n - 1]?.getD 0=v1 at *
 clear hU2 hU1 hUn hV2 hV1
 go_enter Tryz.func94,Tryz.ntmps94
 go_wp2
 go_quiet (fail)
 go_upto_if 22 with fail
 go_cut [6,7,8,9,10,22] from 23 to 81 (fun gv _ _ _ _ _ wx=>∃gq:Nat,gv=.int .u64 gq∧Q≤gq∧gq < 18446744073709551616∧∃m,w.drewN m=wx)
 case first=>
  by_cases hlt:un < v1
  ·have hlt':(un:Int) < (v1:Int):=by omega
   have hdec:decide (un < v1)=true:=decide_eq_true hlt
   simp only[hdec]
   obtain⟨q0,hq0⟩:∃q0,q0=(un * 18446744073709551616 + u1) / v1:=⟨_,rfl⟩
   obtain⟨r0,hr0⟩:∃r0,r0=(un * 18446744073709551616 + u1) % v1:=⟨_,rfl⟩
   have hr0':r0 < v1:=by rw[hr0];exact Nat.mod_lt _ hv0
   have hqr0:q0 * v1 + r0=un * 18446744073709551616 + u1:=by rw[hq0,hr0,Nat.mul_comm];exact Nat.div_add_mod _ _
   have hq0B:q0 < 18446744073709551616:=by rw[hq0];exact xx hlt u1lt
   have hQq0:=HFIRST.out q0 r0 hqr0 hr0' HVPOS.out
   have D1:=fun (w:World)=>div64q un u1 v1 q0 r0 w hlt v1lt u1lt hqr0 hr0'
   have HQR0:=Lib.hid hqr0
   have HD1:=Lib.hid D1
   clear hq0 hr0 hqr0 D1
   have hi3:IntKind.i64.wrap ((n:Int) - 1)=(n:Int) - 1:=jo _ (by omega) (by omega)
   have hi4:(0:Int)≤(n:Int) - 1:=by omega
   have hi5:(n:Int) - 1 < (n:Int) + 1:=by omega
   have hi6:(n:Int) - 1 < (n:Int):=by omega
   have hi7:((n:Int) - 1).toNat=n - 1:=by omega
   have hi8:(0:Int)≤(n:Int):=by omega
   have hi10:(1:Int)≤(n:Int):=by omega
   have hi9:(n:Int) < (n:Int) + 1:=by omega
   go_wp2
   go_quiet (first|(go_at_call 102;exact quiet_more (HD1.out _)))
   go_wp2
   go_loopw [6,7,8,9,10] (fun gv rv _ _ _ wr=>∃(q r m:Nat),gv=.int .u64 q∧rv=.int .u64 r∧q * v1 + r=un * 18446744073709551616 + u1∧Q≤q∧q < 18446744073709551616∧r < 18446744073709551616∧wr=w.drewN m) (fun gv _ _ _ _ _=>(intOf gv).toNat)
   case atStart=>exact⟨q0,r0,_,rfl,rfl,HQR0.out,hQq0,hq0B,by omega,World.drewN_drewN ..⟩
   case round=>
    obtain⟨q,r,m,rfl,rfl,hqr,hQq,hqB,hrB,rfl⟩:=hrel
    have HQR:=Lib.hid hqr
    clear hqr HQR0 hQq0 hq0B hr0'
    go_wp2_with fail
    refine (mul64 q v2 hqB v2lt _).mono ?_
    rintro e w' ⟨hi,lo,rfl,rfl,hp,hlo,hhi⟩
    have HP:=Lib.hid hp
    clear hp
    have hdown:(r * 18446744073709551616 + u2 < hi * 18446744073709551616 + lo)→Q < q:=by
     intro h
     exact HLOWER.out q r HQR.out (by rw[←HP.out];exact h) HVPOS.out
    have hnext:0 < q→(q - 1) * v1 + (r + v1)=un * 18446744073709551616 + u1:=by
     intro h
     obtain⟨t,rfl⟩:∃t,q=t + 1:=⟨q - 1,by omega⟩
     rw[←HQR.out,Nat.add_sub_cancel,Nat.add_mul]
     omega
    have HDOWN:=Lib.hid hdown
    have HNEXT:=Lib.hid hnext
    clear hdown hnext
    by_cases h1:hi < r
    ·have h1':(hi:Int) < (r:Int):=by omega
     go_wp2
     go_meet
     exact⟨q,rfl,hQq,hqB,_,rfl⟩
    ·have h1':¬ (hi:Int) < (r:Int):=by omega
     by_cases h2:hi=r
     ·subst h2
      by_cases h3:lo≤u2
      ·have h3':(lo:Int)≤(u2:Int):=by omega
       go_wp2
       go_meet
       exact⟨q,rfl,hQq,hqB,_,rfl⟩
      ·have h3':¬ (lo:Int)≤(u2:Int):=by omega
       have hlt2:=HDOWN.out (by omega)
       have A1:=uy (hi:Int) (v1:Int) (by omega) (by omega)
       by_cases h4:hi + v1 < 18446744073709551616
       ·have e1:((hi:Int) + (v1:Int)) % 18446744073709551616=(hi:Int) + (v1:Int):=by omega
        have e2:((hi:Int) + (v1:Int)) / 18446744073709551616=0:=by omega
        rw[e1,e2] at A1
        clear e1 e2
        go_wp2
        go_roundw
        case rel=>exact⟨q - 1,hi + v1,m,by congr 1;omega,by go_num,HNEXT.out (by omega),by omega,by omega,by omega,(by first|rfl|trivial)⟩
        all_goals first|(simp[intOf];done)|(simp[intOf];omega)
       ·have e2:((hi:Int) + (v1:Int)) / 18446744073709551616=1:=by omega
        rw[e2] at A1
        clear e2
        go_wp2
        go_meet
        exact⟨q - 1,by congr 1;omega,by omega,by omega,_,rfl⟩
     ·have h2':((hi:Int) == (r:Int))=false:=by rw[beq_eq_false_iff_ne];omega
      have h5:r * 18446744073709551616 + 18446744073709551616≤hi * 18446744073709551616:=by
       have:(r + 1) * 18446744073709551616≤hi * 18446744073709551616:=Nat.mul_le_mul_right _ (by omega)
       rw[Nat.add_mul,Nat.one_mul] at this
       exact this
      have hlt2:=HDOWN.out (by omega)
      clear h5
      have A1:=uy (r:Int) (v1:Int) (by omega) (by omega)
      by_cases h4:r + v1 < 18446744073709551616
      ·have e1:((r:Int) + (v1:Int)) % 18446744073709551616=(r:Int) + (v1:Int):=by omega
       have e2:((r:Int) + (v1:Int)) / 18446744073709551616=0:=by omega
       rw[e1,e2] at A1
       clear e1 e2
       go_wp2
       go_roundw
       case rel=>exact⟨q - 1,r + v1,m,by congr 1;omega,by go_num,HNEXT.out (by omega),by omega,by omega,by omega,(by first|rfl|trivial)⟩
       all_goals first|(simp[intOf];done)|(simp[intOf];omega)
      ·have e2:((r:Int) + (v1:Int)) / 18446744073709551616=1:=by omega
       rw[e2] at A1
       clear e2
       go_wp2
       go_meet
       exact⟨q - 1,by congr 1;omega,by omega,by omega,_,rfl⟩
  ·have hlt':¬ (un:Int) < (v1:Int):=by omega
   go_wp2
   go_meet
   exact⟨18446744073709551615,rfl,by omega,by omega,_,rfl⟩
 case rest=>
  obtain⟨gq,rfl,hQg,hgB,m,rfl⟩:=hcut
  go_wp2
  go_loopw [6] (fun gv wr=>∃gq:Nat,gv=.int .u64 gq∧Q≤gq∧gq < 18446744073709551616∧iz .u64 95 wr g (A ++ ol ++ C) r∧Only g w wr) (fun gv _=>(intOf gv).toNat)
  case atStart=>exact⟨gq,rfl,hQg,hgB,HB.out.drewN m,(Only.refl g w).drawN m⟩
  case round=>
   obtain⟨gq,rfl,hQg,hgB,hbl,honly⟩:=hrel
   have HBL:=Lib.hid hbl
   have HON:=Lib.hid honly
   clear hbl honly
   go_wp2_with fail
   have hcall:=l_take_calls g n cu cv gq (some ⟨bv,ov,none⟩) A ol C lv r _ HBL.out HOL.out HDO.out hcu hcm (HV.out.only HAW.out HON.out) HDV.out HAW.out hgB (by omega)
   rw[HJ.out] at hcall
   refine hcall.mono ?_
   rintro e w' ⟨ol',hcase,hbl',honly'⟩
   have HBL':=Lib.hid hbl'
   have HON':=Lib.hid (HON.out.trans honly')
   clear hbl' honly' hcall
   rcases hcase with ⟨hless,rfl,rfl⟩|⟨hge,rfl,hl',hd',hv'⟩
   ·have hQlt2:Q < gq:=by
     have:=(Nat.div_lt_iff_lt_mul HVPOS.out).2 hless
     rw[HQ.out] at this
     exact this
    clear hless
    go_wp2
    go_roundw
    case rel=>
     exact⟨gq - 1,by congr 1;omega,by omega,by omega,HBL'.out,HON'.out⟩
    all_goals first|(simp[intOf];done)|(simp[intOf];omega)
   ·have hQe:gq=Q:=by
     have:=(Nat.le_div_iff_mul_le HVPOS.out).2 hge
     rw[HQ.out] at this
     omega
    subst hQe
    have HV':=Lib.hid hv'
    clear hge hv'
    go_wp2
    go_ret
    refine⟨ol',by rw[HQ.out];rfl,hl',hd',?_,HBL'.out,HON'.out⟩
    rw[HV'.out,←HQ.out]
    have:=Nat.div_add_mod (val 18446744073709551616 ol) (val 18446744073709551616 lv)
    rw[Nat.mul_comm (val 18446744073709551616 ol / _)]
    omega
end Go.Proofs.YtidmjdmmpajooaaGreat
namespace Go.Proofs.YtidmjdmmpajooaaGreat.Dg
theorem parts3 (L:List Nat) (k m:Nat):L=L.take k ++ (L.drop k).take m ++ L.drop (k + m):=by
 rw[List.append_assoc,show L.drop (k + m)=(L.drop k).drop m from by rw[List.drop_drop],List.take_append_drop,List.take_append_drop]
theorem part_val {B:Nat} (hB:0 < B) {L:List Nat} {k n V:Nat} (hd:cj B L) (hk:k < L.length) (hV:V≤B ^ n) (h:val B (L.drop (k + 1)) < V):
  val B ((L.drop k).take (n + 1))=val B (L.drop k)∧val B (L.drop k) < B * V∧val B (L.drop (k + (n + 1)))=0:=by
 have h1:=ju B L k hk
 have h2:=hd.get hB k
 have h3:B * (val B (L.drop (k + 1)) + 1)≤B * V:=Nat.mul_le_mul_left _ h
 rw[Nat.mul_add,Nat.mul_one] at h3
 have h4:val B (L.drop k) < B * V:=by omega
 have h5:B * V≤B ^ (n + 1):=by rw[Nat.pow_succ,Nat.mul_comm];exact Nat.mul_le_mul_right _ hV
 have e:L.drop k=(L.drop k).take (n + 1) ++ L.drop (k + (n + 1)):=by
  rw[show L.drop (k + (n + 1))=(L.drop k).drop (n + 1) from by rw[List.drop_drop],List.take_append_drop]
 have h6:=congrArg (val B) e
 rw[il] at h6
 by_cases hl:n + 1≤(L.drop k).length
 ·rw[List.length_take,Nat.min_eq_left hl] at h6
  have h7:val B (L.drop (k + (n + 1)))=0:=by
   rcases Nat.eq_zero_or_pos (val B (L.drop (k + (n + 1)))) with h|h
   ·exact h
   ·have:B ^ (n + 1) * 1≤B ^ (n + 1) * val B (L.drop (k + (n + 1))):=Nat.mul_le_mul_left _ h
    omega
  rw[h7,Nat.mul_zero,Nat.add_zero] at h6
  exact⟨h6.symm,h4,h7⟩
 ·have h7:L.drop (k + (n + 1))=[]:=by
   apply List.drop_of_length_le
   rw[List.length_drop] at hl
   omega
  rw[h7] at h6 ⊢
  simp only[val,Nat.mul_zero,Nat.add_zero] at h6
  exact⟨h6.symm,h4,rfl⟩
theorem long_step {B:Nat} (L ql ol':List Nat) (k n V A':Nat) (hkL:k < L.length) (hkq:k < ql.length)
  (hC:val B (L.drop (k + (n + 1)))=0) (hol:val B ((L.drop k).take (n + 1))=val B (L.drop k))
  (hol':val B ol'=val B (L.drop k) % V) (hV:0 < V)
  (h:val B L + val B (ql.drop (k + 1)) * V * B ^ (k + 1)=A'):
  val B (L.take k ++ ol' ++ L.drop (k + (n + 1))) + val B ((ql.set k (val B (L.drop k) / V)).drop k) * V * B ^ k=A'∧
   val B ((L.take k ++ ol' ++ L.drop (k + (n + 1))).drop k) < V:=by
 have hlk:(L.take k).length=k:=by rw[List.length_take];omega
 have hd:(L.take k ++ ol' ++ L.drop (k + (n + 1))).drop k=ol' ++ L.drop (k + (n + 1)):=by
  rw[List.append_assoc,List.drop_append_of_le_length (by omega),List.drop_of_length_le (by omega),List.nil_append]
 have hv:val B (ol' ++ L.drop (k + (n + 1)))=val B (L.drop k) % V:=by
  rw[il,hC,Nat.mul_zero,Nat.add_zero,hol']
 refine⟨?_,by rw[hd,hv];exact Nat.mod_lt _ hV⟩
 rw[List.append_assoc,il,hlk,hv,xr _ _ _ _ hkq]
 have h1:=lj B L k (by omega)
 have h2:=Nat.div_add_mod (val B (L.drop k)) V
 rw[←h,h1,Nat.pow_succ]
 generalize val B (L.drop k) / V=q at *
 generalize val B (L.drop k) % V=r at *
 generalize val B (L.drop k)=z at *
 generalize val B (ql.drop (k + 1))=x at *
 generalize val B (L.take k)=y at *
 generalize B ^ k=P at *
 subst h2
 grind
theorem long_start {B:Nat} (hB:1 < B) {ll lv:List Nat} {n:Nat} (hd:cj B ll) (hn:lv.length=n) (hc:bi B lv) (h1:0 < n) (h2:n≤ll.length):
  val B ((ll ++ [0]).drop (ll.length + 1 - n)) < val B lv:=by
 rw[List.drop_append_of_le_length (by omega),il]
 have h3:=gp (by omega) (hd.drop (ll.length + 1 - n))
 have h4:=hc.ge (by omega)
 rw[List.length_drop,show ll.length - (ll.length + 1 - n)=n - 1 from by omega] at h3
 rw[hn] at h4
 rw[ns,Nat.mul_zero,Nat.add_zero]
 omega
end Go.Proofs.YtidmjdmmpajooaaGreat.Dg
namespace Go.Proofs.YtidmjdmmpajooaaGreat
open Go.RowKit Dg
theorem l_divide_less (ao bo:Option Addr) (n c m d:Nat) (l l':List Nat) (w:World) (hs:Sl .u64 w ao n c l) (hs':Sl .u64 w bo m d l') (hd:bi 18446744073709551616 l) (hd':bi 18446744073709551616 l')
  (hlt:val 18446744073709551616 l < val 18446744073709551616 l'):
  Calls Tryz.prog 76 #[.slice ao n c,.slice bo m d] w (pu .u64 18446744073709551616 w (val 18446744073709551616 l / val 18446744073709551616 l') (val 18446744073709551616 l % val 18446744073709551616 l')):=by
 rw[Nat.div_eq_of_lt hlt,Nat.mod_eq_of_lt hlt]
 have hcmp:=mj ao bo n c m d l l' w hs hs' hd hd'
 have HN:=Lib.hid (ck.sl hs hd)
 have hord:=ws hlt
 have HC:=Lib.hid hcmp
 clear hs hs' hd hd' hlt hcmp
 go_enter Tryz.func76,Tryz.ntmps76
 go_wp2_with fail
 refine (HC.out).mono ?_
 rintro e w' ⟨q,rfl,rfl⟩
 go_wp2
 go_ret2
 exact⟨_,_,rfl,⟨_,_,_,[],rfl,Sl.empty _ _ _ _ (by omega) (fun _=>rfl),bi.nil _,rfl⟩,HN.out.mono (it (Below.refl _ _) q),it (Below.refl _ _) q⟩
theorem l_divide_one (ao bo:Option Addr) (n c d:Nat) (l l':List Nat) (w:World) (hs:Sl .u64 w ao n c l) (hs':Sl .u64 w bo 1 d l') (hd:bi 18446744073709551616 l) (hd':bi 18446744073709551616 l')
  (hn:n≤1099511627776) (hge:val 18446744073709551616 l'≤val 18446744073709551616 l):
  Calls Tryz.prog 76 #[.slice ao n c,.slice bo 1 d] w (pu .u64 18446744073709551616 w (val 18446744073709551616 l / val 18446744073709551616 l') (val 18446744073709551616 l % val 18446744073709551616 l')):=by
 have hcmp:=mj ao bo n c 1 d l l' w hs hs' hd hd'
 have hord:=ub hge
 have HC:=Lib.hid hcmp
 obtain⟨y,rfl⟩:=List.length_eq_one_iff.1 hs'.len
 rw[ns] at *
 have hy:y≠0:=by have:=hd'.2 (by simp);simpa using this
 have hyB:y < 18446744073709551616:=hd'.1 y (by simp)
 obtain⟨b1,o1,rfl,hcell⟩:=hs'.at (i:=0) (by omega)
 simp only[Nat.add_zero,List.getElem?_cons_zero,Option.getD_some] at hcell
 have HS:=Lib.hid hs
 have HD:=Lib.hid hd.1
 clear hs hs' hd hd' hge hcmp
 go_enter Tryz.func76,Tryz.ntmps76
 go_wp2_with fail
 refine (HC.out).mono ?_
 rintro e w' ⟨q,rfl,rfl⟩
 go_wp2_with fail
 refine (tc _ _ _ _ y _ (HS.out.mono (it (Below.refl _ _) q)) HD.out (by omega) hyB hn).mono ?_
 rintro e w1 ⟨v1,rfl,hv1,hb1⟩
 have hrlt:=Nat.mod_lt (val 18446744073709551616 l) (show 0 < y by omega)
 generalize val 18446744073709551616 l % y=r at *
 have HV1:=Lib.hid hv1
 have HB1:=Lib.hid hb1
 clear hv1 hb1
 go_wp2_with fail
 refine (qx r _ (by omega)).mono ?_
 rintro e w2 ⟨v2,rfl,hv2,hb2⟩
 have HV2:=Lib.hid hv2
 have HB2:=Lib.hid hb2
 clear hv2 hb2
 go_wp2
 go_ret2
 exact⟨_,_,rfl,HV1.out.mono HB2.out,HV2.out,((it (Below.refl _ _) q).trans (HB1.out)).trans (HB2.out.mono HB1.out.size)⟩
end Go.Proofs.YtidmjdmmpajooaaGreat
