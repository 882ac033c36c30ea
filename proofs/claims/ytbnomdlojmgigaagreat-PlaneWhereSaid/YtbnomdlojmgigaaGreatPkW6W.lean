/-
  The contracts of the reference's natural numbers, fourth part: Shifted, Quotient, Divisor.
-/
import Derived.Test.YtbnomdlojmgigaaGreatPkW3W
import Derived.Test.YtbnomdlojmgigaaGreatPkW5W
import Derived.Test.YtbnomdlojmgigaaGreatPkW1W
import Derived.Deep.LoopGhost
set_option linter.unusedSimpArgs false
set_option linter.unusedVariables false
set_option maxRecDepth 100000
set_option maxHeartbeats 4000000
namespace Go.Proofs.YtbnomdlojmgigaaGreat
open Go.RowKit Dg
theorem qs (B n:Nat) (l:List Nat):val B (List.replicate n 0 ++ l)=val B l * B ^ n:=by
 rw[il,nw,List.length_replicate,Nat.zero_add,Nat.mul_comm]
theorem shift_parts (x s:Nat):x * 4294967296 ^ (s / 32) * 2 ^ (s % 32)=x * 2 ^ s:=by
 rw[show (4294967296:Nat)=2 ^ 32 from rfl,←Nat.pow_mul,Nat.mul_assoc,←Nat.pow_add,Nat.div_add_mod]
theorem zw (ao:Option Addr) (n c:Nat) (l:List Nat) (s:Int) (w:World) (hs:Sl .u32 w ao n c l) (hd:cj 4294967296 l) (hn:n≤17179869184) (h0:0≤s) (h1:s≤17179869184):
  Calls Tryz.prog 148 #[.slice ao n c,.int .i64 s] w (si .u32 4294967296 w (val 4294967296 l * 2 ^ s.toNat)):=by
 obtain⟨s,rfl⟩:=Int.eq_ofNat_of_zero_le h0
 rw[Int.toNat_natCast,←shift_parts]
 have h5:s % 32 < 32:=Nat.mod_lt _ (by omega)
 have hlen:=hs.len
 have HS:=Lib.hid hs;clear hs
 have HD:=Lib.hid hd;clear hd
 have HL:=Lib.hid hlen;clear hlen
 obtain⟨i0,hi,hz0,hz1,hz2⟩:=info_parts oq
 have hbz:=Blk.new .u32 150 w (List.replicate (s / 32) 0)
 have hbe:Below w.heap.size w (w.alloc (.cells (U .u32 (List.replicate (s / 32) 0)) 150)):=(Below.refl _ _).alloc (Nat.le_refl _) _
 have howns:=hbz.owns (by rw[List.length_replicate];omega)
 rw[List.length_replicate] at howns
 have HOWN:=Lib.hid howns
 have HBE:=Lib.hid hbe
 have HBZ:=Lib.hid hbz
 clear howns hbe hbz
 have hp5:2 ^ (s % 32) < 2 ^ 32:=Nat.pow_lt_pow_right (by omega) h5
 have hwrap:IntKind.u64.wrap ((2:Int) ^ (s % 32))=((2 ^ (s % 32):Nat):Int):=by
  rw[show ((2:Int) ^ (s % 32))=((2 ^ (s % 32):Nat):Int) from by simp]
  generalize 2 ^ (s % 32)=p at *
  rw[show (2:Nat) ^ 32=4294967296 from rfl] at hp5
  show ((p:Int)) % 18446744073709551616=p
  omega
 generalize 2 ^ (s % 32)=p at *
 rw[show (2:Nat) ^ 32=4294967296 from rfl] at hp5
 have HWR:=Lib.hid hwrap
 clear hwrap
 rcases ao with _|ad
 ·have hn0:n=0:=by
   rcases Nat.eq_zero_or_pos n with h|h
   ·exact h
   ·obtain⟨b,o,e,_⟩:=HS.out.at h
    cases e
  subst hn0
  have:l=[]:=List.length_eq_zero_iff.1 HL.out
  subst this
  have hc0:=HS.out.nil rfl
  subst hc0
  go_enter Tryz.func148,Tryz.ntmps148
  go_wp2_with (first
   | (at_make;refine co _ rfl _ _ 51 rfl 150 i0 .u32 Tryz.underlying51 hi hz0 hz1 _ _ _ _ (s / 32) (s / 32) rfl rfl ?c1 ?c2 (Nat.le_refl _) ?c3 ?c4 ?_)
   | (at_builtin;refine wpList_append_own_none rfl _ _ 51 rfl w.heap.size 150 i0 1 Tryz.underlying51 hi _ _ _ rfl HOWN.out rfl ?_))
  case c1=>omega
  case c2=>omega
  case c3=>rw[hz2];omega
  case c4=>omega
  have hsl:=HBZ.out.sl (by rw[List.length_replicate];omega)
  rw[List.length_replicate] at hsl
  have hsl:Sl .u32 (w.alloc (.cells (U .u32 (List.replicate (s / 32) 0)) 150)) (some ⟨w.heap.size,0,none⟩) (s / 32) (s / 32) (List.replicate (s / 32) 0 ++ []):=by rw[List.append_nil];exact hsl
  have HSL:=Lib.hid hsl
  have HBEL:=HBE
  clear hsl
  go_wp2_with fail
  rw[HWR.out]
  refine (jj _ _ (by omega) (by omega)).mono ?_
  rintro e w2 ⟨_,rfl,⟨ao2,n2,c2,l2,rfl,hs2,hc2,hv2⟩,hb2,_⟩
  rw[Int.toNat_natCast] at hv2
  have hn2:n2≤1:=by rw[←hs2.len];exact hc2.length_le (by omega) (by rw[hv2];omega)
  have HS2:=Lib.hid hs2
  have HC2:=Lib.hid hc2
  have HV2:=Lib.hid hv2
  have HB2:=Lib.hid hb2
  clear hs2 hc2 hv2 hb2
  go_wp2_with fail
  refine (mu _ _ _ _ _ _ _ _ _ (HSL.out.mono HB2.out) HS2.out ((cj.zeros (by omega) _).append HD.out) HC2.out.1 (by omega) (by omega)).mono ?_
  rintro e w3 ⟨_,rfl,hnv,hb3,hf3⟩
  rw[HV2.out,qs] at hnv
  have HNV:=Lib.hid hnv
  have HB3:=Lib.hid hb3
  clear hnv hb3
  go_wp2
  go_ret
  exact⟨_,rfl,HNV.out,(HBEL.out.trans (HB2.out.mono HBEL.out.size)).trans (HB3.out.mono (Nat.le_trans HBEL.out.size HB2.out.size)),hf3.mono (Nat.le_trans HBEL.out.size HB2.out.size)⟩
 ·have hnews:=HS.out.news' HBE.out
  have HNEWS:=Lib.hid hnews;clear hnews
  go_enter Tryz.func148,Tryz.ntmps148
  go_wp2_with (first
   | (at_make;refine co _ rfl _ _ 51 rfl 150 i0 .u32 Tryz.underlying51 hi hz0 hz1 _ _ _ _ (s / 32) (s / 32) rfl rfl ?c1 ?c2 (Nat.le_refl _) ?c3 ?c4 ?_)
   | (at_builtin;refine wpList_append_own _ rfl _ _ 51 rfl w.heap.size 150 i0 (.int .u32 0) 1 4 Tryz.underlying51 hi hz0 hz1 hz2 rfl (by decide) _ _ _ rfl HOWN.out ad n c (l.map fun x:Nat=>Value.int .u32 (x:Int)) rfl ?d1 HNEWS.out (zh _ _) ?d2 ?d3 ?d4 ?_))
  case c1=>omega
  case c2=>omega
  case c3=>rw[hz2];omega
  case c4=>omega
  case d1=>rw[List.length_map,HL.out,Nat.mul_one]
  case d2=>unfold maxLen;omega
  case d3=>omega
  case d4=>simp
  intro v' w1 hown' hgrow hnil
  have hown':w1.ownsRow w.heap.size 150 1 v' (s / 32 + n) ((List.replicate (s / 32) 0 ++ l).map fun x:Nat=>Value.int .u32 (x:Int)):=by simpa using hown'
  have hne:v'≠.slice none 0 0:=fun h=>by first|exact hnil h|(have:=(hnil.1 h).1;cases this)
  obtain⟨ao',c',rfl,hsl⟩:=Sl.of_owns hown' (.inl hne)
  have hbel:=og hgrow HBE.out (by simp)
  have HSL:=Lib.hid hsl
  have HBEL:=Lib.hid hbel
  clear hown' hgrow hnil hsl hbel hne
  go_wp2_with fail
  rw[HWR.out]
  refine (jj _ _ (by omega) (by omega)).mono ?_
  rintro e w2 ⟨_,rfl,⟨ao2,n2,c2,l2,rfl,hs2,hc2,hv2⟩,hb2,_⟩
  rw[Int.toNat_natCast] at hv2
  have hn2:n2≤1:=by rw[←hs2.len];exact hc2.length_le (by omega) (by rw[hv2];omega)
  have HS2:=Lib.hid hs2
  have HC2:=Lib.hid hc2
  have HV2:=Lib.hid hv2
  have HB2:=Lib.hid hb2
  clear hs2 hc2 hv2 hb2
  go_wp2_with fail
  refine (mu _ _ _ _ _ _ _ _ _ (HSL.out.mono HB2.out) HS2.out ((cj.zeros (by omega) _).append HD.out) HC2.out.1 (by omega) (by omega)).mono ?_
  rintro e w3 ⟨_,rfl,hnv,hb3,hf3⟩
  rw[HV2.out,qs] at hnv
  have HNV:=Lib.hid hnv
  have HB3:=Lib.hid hb3
  clear hnv hb3
  go_wp2
  go_ret
  exact⟨_,rfl,HNV.out,(HBEL.out.trans (HB2.out.mono HBEL.out.size)).trans (HB3.out.mono (Nat.le_trans HBEL.out.size HB2.out.size)),hf3.mono (Nat.le_trans HBEL.out.size HB2.out.size)⟩
end Go.Proofs.YtbnomdlojmgigaaGreat
namespace Go.Proofs.YtbnomdlojmgigaaGreat
open Go.RowKit Dg
def pu (k:IntKind) (B:Nat) (w:World) (x y:Nat) (e:Ending) (w':World):Prop:=
 ∃v1 v2,e=.returned (.tuple #[v1,v2])∧ck k B w' v1 x∧ck k B w' v2 y∧Below w.heap.size w w'
theorem ub {x y:Nat} (h:y≤x):0≤gn x y:=by unfold gn;rw[if_neg (by omega)];split<;>omega
theorem ws {x y:Nat} (h:x < y):gn x y < 0:=by unfold gn;rw[if_pos h];omega
theorem bl_len {l:List Nat} (h:bi 4294967296 l) (n:Nat) (hn:l.length=n):bl (val 4294967296 l)≤32 * n:=by
 apply jy
 have:=gp (by omega) h.1
 rw[hn] at this
 rwa [show (4294967296:Nat)=2 ^ 32 from rfl,←Nat.pow_mul] at this
def QuoInv (w:World) (A b n:Nat) (av dv iv:Value) (wr:World):Prop:=
 ∃(k aA:Nat) (ql:List Nat),k≤n + 1∧iv=.int .i64 ((k:Int) - 1)∧ck .u32 4294967296 wr av aA∧(∀j,k=j + 1→ck .u32 4294967296 wr dv (b * 2 ^ j))∧
  Blk .u32 150 wr w.heap.size ql∧ql.length=n / 32 + 1∧cj 4294967296 ql∧val 4294967296 ql * b + aA=A∧aA < b * 2 ^ k∧val 4294967296 ql % 2 ^ k=0∧aA≤A∧Below w.heap.size w wr∧ry w.heap.size av∧(0 < k→ry w.heap.size dv)
theorem je7 (ao bo:Option Addr) (n c d:Nat) (l l':List Nat) (w:World) (hs:Sl .u32 w ao n c l) (hs':Sl .u32 w bo 1 d l') (hd:cj 4294967296 l) (hd':bi 4294967296 l')
  (hn:n≤536870912):
  Calls Tryz.prog 124 #[.slice ao n c,.slice bo 1 d] w (pu .u32 4294967296 w (val 4294967296 l / val 4294967296 l') (val 4294967296 l % val 4294967296 l')):=by
 have h0:=hd'.2 (by rw[hs'.len];omega)
 rw[hs'.len] at h0
 have d1:=hd'.1.get (by omega) 0
 obtain⟨b1,o1,rfl,hc⟩:=hs'.at (i:=0) (by omega)
 rw[Nat.add_zero] at hc
 have hl':l'=[l'[0]?.getD 0]:=by
  obtain⟨x,rfl⟩:=List.length_eq_one_iff.1 hs'.len
  rfl
 have hv':val 4294967296 l'=l'[0]?.getD 0:=by rw[hl'];simp[val]
 rw[hv']
 have h0':0 < l'[0]?.getD 0:=by have:=h0;simp at this;omega
 clear h0 hl' hv'
 generalize l'[0]?.getD 0=y at *
 have HS:=Lib.hid hs;clear hs
 have HD:=Lib.hid hd;clear hd
 clear hs' hd'
 go_enter Tryz.func124,Tryz.ntmps124
 go_wp2_with fail
 refine (rp _ _ _ _ (y:Int) _ HS.out HD.out (by omega) (by omega) (by omega)).mono ?_
 rintro e w1 ⟨v1,rfl,hv1,hb1⟩
 rw[Int.toNat_natCast] at *
 have hrem:=Nat.mod_lt (val 4294967296 l) h0'
 generalize val 4294967296 l % y=r at *
 have HV1:=Lib.hid hv1
 have HB1:=Lib.hid hb1
 clear hv1 hb1
 go_wp2_with fail
 refine (jj _ _ (by omega) (by omega)).mono ?_
 rintro e w2 ⟨v2,rfl,hv2,hb2,_⟩
 rw[Int.toNat_natCast] at *
 have HV2:=Lib.hid hv2
 have HB2:=Lib.hid hb2
 clear hv2 hb2
 go_wp2
 go_ret2
 exact⟨_,_,rfl,HV1.out.mono HB2.out,HV2.out,HB1.out.trans (HB2.out.mono HB1.out.size)⟩
theorem zv (ao bo:Option Addr) (n c m d:Nat) (l l':List Nat) (w:World) (hs:Sl .u32 w ao n c l) (hs':Sl .u32 w bo m d l') (hd:bi 4294967296 l) (hd':bi 4294967296 l')
  (hn:n≤536870912) (hm:m≤536870912) (hm1:m≠1) (hb0:0 < val 4294967296 l'):
  Calls Tryz.prog 124 #[.slice ao n c,.slice bo m d] w (pu .u32 4294967296 w (val 4294967296 l / val 4294967296 l') (val 4294967296 l % val 4294967296 l')):=by
 have hba:=bl_len hd n hs.len
 have hbb:=bl_len hd' m hs'.len
 have hav:ck .u32 4294967296 w (.slice ao n c) (val 4294967296 l):=⟨_,_,_,_,rfl,hs,hd,rfl⟩
 have HAV:=Lib.hid hav;clear hav
 have HS:=Lib.hid hs;clear hs
 have HS':=Lib.hid hs';clear hs'
 have HD:=Lib.hid hd;clear hd
 have HD':=Lib.hid hd';clear hd'
 generalize hA:val 4294967296 l=A at *
 generalize hb:val 4294967296 l'=b at *
 have HA:=Lib.hid hA;clear hA
 have HBv:=Lib.hid hb;clear hb
 have hm1':((m:Int) == 1)=false:=by rw[beq_eq_false_iff_ne];omega
 have HM:=Lib.hid hm1;clear hm1
 obtain⟨i0,hi,hz0,hz1,hz2⟩:=info_parts oq
 by_cases hlt:bl A < bl b
 ·have hAb:=lt_of_bl hlt
  go_enter Tryz.func124,Tryz.ntmps124
  go_wp2_with fail
  refine (nr _ _ _ _ _ HS.out HD.out (by omega)).mono ?_
  rintro e w1 ⟨rfl,rfl⟩
  rw[HA.out]
  go_wp2_with fail
  refine (nr _ _ _ _ _ HS'.out HD'.out (by omega)).mono ?_
  rintro e w1 ⟨rfl,rfl⟩
  rw[HBv.out]
  go_wp2
  go_ret2
  refine⟨_,_,rfl,?_,?_,(Below.refl _ _).alloc (Nat.le_refl _) _⟩
  ·exact⟨_,_,_,[],rfl,Sl.empty _ _ _ _ (by omega) (fun e=>by cases e),bi.nil _,by rw[Nat.div_eq_of_lt hAb];rfl⟩
  ·rw[Nat.mod_eq_of_lt hAb]
   exact HAV.out.mono ((Below.refl _ _).alloc (Nat.le_refl _) _)
 ·obtain⟨s,hs⟩:∃s,bl A=s + bl b:=⟨bl A - bl b,by omega⟩
  have hq:=quo_start hb0 s hs
  have HQ:=Lib.hid hq;clear hq
  rw[hs] at hlt hba
  go_enter Tryz.func124,Tryz.ntmps124
  go_wp2_with fail
  refine (nr _ _ _ _ _ HS.out HD.out (by omega)).mono ?_
  rintro e w1 ⟨rfl,rfl⟩
  rw[HA.out,hs]
  clear hs
  go_wp2_with fail
  refine (nr _ _ _ _ _ HS'.out HD'.out (by omega)).mono ?_
  rintro e w1 ⟨rfl,rfl⟩
  rw[HBv.out]
  have hsub:(s:Int) + ((bl b:Nat):Int) - ((bl b:Nat):Int)=(s:Int):=by omega
  go_wp2_with (at_make;refine co _ rfl _ _ 51 rfl 150 i0 .u32 Tryz.underlying51 hi hz0 hz1 _ _ _ _ (s / 32 + 1) (s / 32 + 1) rfl rfl ?c1 ?c2 (Nat.le_refl _) ?c3 ?c4 ?_)
  case c1=>omega
  case c2=>omega
  case c3=>rw[hz2];omega
  case c4=>omega
  go_wp2_with fail
  have hbw:Below w.heap.size w (w.alloc (.cells (U .u32 (List.replicate (s / 32 + 1) 0)) 150)):=(Below.refl _ _).alloc (Nat.le_refl _) _
  have hblk0:=Blk.new .u32 150 w (List.replicate (s / 32 + 1) 0)
  refine (zw _ _ _ _ _ _ (HS'.out.mono hbw) HD'.out.1 (by omega) (by omega) (by omega)).mono ?_
  rintro e w1 ⟨v1,rfl,hv1,hb1,hf1⟩
  have haw1:ry w.heap.size v1:=hf1.away (by simp)
  have haw0:ry w.heap.size (.slice ao n c):=HS.out.away _ (Nat.le_refl _)
  have HAW1:=Lib.hid haw1
  have HAW0:=Lib.hid haw0
  clear haw0 haw1 hf1
  rw[HBv.out,Int.toNat_natCast] at hv1
  have hblk:=hblk0.below hb1
  have hbel:=hbw.trans (hb1.mono (by simp))
  have HAV1:=Lib.hid (HAV.out.mono hbel)
  have HV1:=Lib.hid hv1
  have HBLK:=Lib.hid hblk
  have HBEL:=Lib.hid hbel
  clear hbw hblk0 hv1 hb1 hblk hbel hsub
  go_wp2
  go_loopw [0,10,11] (fun av dv iv wr=>QuoInv w A b s av dv iv wr) (fun _ _ iv _=>(intOf iv + 1).toNat)
  case atStart=>
   refine⟨s + 1,A,_,Nat.le_refl _,by go_num,HAV1.out,?_,HBLK.out,by simp,cj.zeros (by omega) _,by simp[nw],HQ.out,by simp[nw],Nat.le_refl _,HBEL.out,HAW0.out,fun _=>HAW1.out⟩
   intro j hj
   obtain rfl:s=j:=by omega
   exact HV1.out
  case round=>
   obtain⟨k,aA,ql,hk,rfl,hav,hdv,hblk,hql,hdq,hval,hlt,hmod,haA,hbel,hawa,hawd⟩:=hrel
   have HAWA:=Lib.hid hawa
   have HAWD:=Lib.hid hawd
   clear hawa hawd
   have HAVr:=Lib.hid hav
   have HDVr:=Lib.hid hdv
   have HBLKr:=Lib.hid hblk
   have HQL:=Lib.hid hql
   have HDQ:=Lib.hid hdq
   have HVAL:=Lib.hid hval
   have HLT:=Lib.hid hlt
   have HMOD:=Lib.hid hmod
   have HBELr:=Lib.hid hbel
   clear hav hdv hblk hql hdq hval hlt hmod hbel HAV1 HV1 HBLK HBEL
   cases k with
   | zero=>
    rw[show ((0:Nat):Int) - 1= -1 from rfl]
    go_wp2_with fail
    refine (jl 4294967296 _ _ _ ql _ (by have:=HBLKr.out.sl (by have:=HQL.out;omega);rw[HQL.out] at this;exact this) HDQ.out).mono ?_
    rintro e w' ⟨j,hj,hcj,hvj,rfl,rfl⟩
    go_wp2
    go_ret2
    have hfin:=nf HVAL.out (by have:=HLT.out;simpa using this)
    refine⟨_,_,rfl,⟨_,_,_,_,rfl,(by have:=HBLKr.out.sl (by have:=HQL.out;omega);rw[HQL.out] at this;exact this.take j hj),hcj,?_⟩,?_,HBELr.out⟩
    ·rw[hvj,hfin.1]
    ·rw[←hfin.2];exact HAVr.out
   | succ k=>
    rw[show ((k + 1:Nat):Int) - 1=(k:Int) from by omega]
    obtain⟨a1,n1,c1,l1,rfl,hs1,hc1,hv1⟩:=HAVr.out
    obtain⟨a2,n2,c2,l2,rfl,hs2,hc2,hv2⟩:=HDVr.out k rfl
    have hn1:n1≤n:=by
     have h1:=hc1.length_le_of (by omega) HD.out (by rw[hv1,HA.out];exact haA)
     rw[hs1.len,HS.out.len] at h1;exact h1
    have hn2:n2≤1099511627776:=by
     have h1:val 4294967296 l2 < 4294967296 ^ (m + n + 1):=by
      rw[hv2]
      have b1:=gp (by omega) HD'.out.1
      rw[HBv.out,HS'.out.len] at b1
      have b2:2 ^ k≤2 ^ (32 * (n + 1)):=Nat.pow_le_pow_right (by omega) (by omega)
      rw[Nat.pow_mul,show (2:Nat) ^ 32=4294967296 from rfl] at b2
      have b3:b * 2 ^ k≤b * 4294967296 ^ (n + 1):=Nat.mul_le_mul_left _ b2
      have b4:(b + 1) * 4294967296 ^ (n + 1)≤4294967296 ^ m * 4294967296 ^ (n + 1):=Nat.mul_le_mul_right _ b1
      rw[←Nat.pow_add,show m + (n + 1)=m + n + 1 from rfl,Nat.add_mul] at b4
      have b5:=Nat.pow_pos (n:=n + 1) (show 0 < 4294967296 by omega)
      omega
     have h2:=hc2.length_le (by omega) h1
     rw[hs2.len] at h2
     omega
    have HS1:=Lib.hid hs1
    have HS2:=Lib.hid hs2
    have HC1:=Lib.hid hc1
    have HC2:=Lib.hid hc2
    have HV1:=Lib.hid hv1
    have HV2:=Lib.hid hv2
    have HAA:=Lib.hid haA
    clear hs1 hs2 hc1 hc2 hv1 hv2 haA
    by_cases hge:b * 2 ^ k≤aA
    ·have hord:=ub hge
     have hstep:=quo_step rfl HVAL.out HLT.out HMOD.out hge
     have HSTEP:=Lib.hid hstep
     have HGE:=Lib.hid hge
     clear hstep hge
     go_wp2_with fail
     refine (mf _ _ _ _ _ _ _ _ _ HS1.out HS2.out HC1.out HC2.out).mono ?_
     rintro e w' ⟨q,rfl,rfl⟩
     rw[HV1.out,HV2.out]
     go_wp2_with fail
     refine (pj _ _ _ _ _ _ _ _ _ (HS1.out.mono (it (Below.refl _ _) q)) (HS2.out.mono (it (Below.refl _ _) q)) HC1.out HC2.out (by rw[HV1.out,HV2.out];exact HGE.out) (by omega)).mono ?_
     rintro e w5 ⟨v5,rfl,hv5,hb5,hf5⟩
     rw[HV1.out,HV2.out] at hv5
     have hblk5:Blk .u32 150 w5 w.heap.size ql:=(HBLKr.out.drewN q).below hb5
     have hk32:k / 32 < s / 32 + 1:=by omega
     have hcell5:=hblk5.cell (j:=k / 32) (by rw[HQL.out];omega)
     have hfree5:=hblk5.free (k / 32)
     have haw5:ry w.heap.size v5:=hf5.away (by have:=HBELr.out.size;have:=HBLKr.out.lt;exact this)
     have HAW5:=Lib.hid haw5
     have HV5:=Lib.hid hv5
     have HB5:=Lib.hid hb5
     have HBLK5:=Lib.hid hblk5
     clear hv5 hb5 hblk5 haw5 hf5
     have hroom:=bit_room 32 (by omega) (l:=ql) HDQ.out k (by rw[HQL.out];exact hk32) HMOD.out
     have hwr:((ql[k / 32]?.getD 0:Nat):Int) + 2 ^ (k % 32)=((ql[k / 32]?.getD 0 + 2 ^ (k % 32):Nat):Int):=by simp
     have hset:=HBLK5.out.set (k / 32) (ql[k / 32]?.getD 0 + 2 ^ (k % 32))
     have hvs:=val_set_bit 32 ql k (by rw[HQL.out];exact hk32)
     have hdset:=HDQ.out.set (k / 32) (ql[k / 32]?.getD 0 + 2 ^ (k % 32)) hroom
     have HSET:=Lib.hid hset
     have HVS:=Lib.hid hvs
     have HDS:=Lib.hid hdset
     have HWR:=Lib.hid hwr
     have HROOM:=Lib.hid hroom
     clear hset hvs hdset hwr hroom
     go_wp2_with fail
     have hmodw:(((ql[k / 32]?.getD 0:Nat):Int) + 2 ^ (k % 32)) % 4294967296=((ql[k / 32]?.getD 0 + 2 ^ (k % 32):Nat):Int):=by
      rw[HWR.out]
      have:=HROOM.out
      rw[show (2:Nat) ^ 32=4294967296 from rfl] at this
      generalize ql[k / 32]?.getD 0 + 2 ^ (k % 32)=z at *
      omega
     rw[hmodw]
     have hd5:Sl .u32 (w5.setCell ⟨w.heap.size,k / 32,none⟩ (.int .u32 ((ql[k / 32]?.getD 0 + 2 ^ (k % 32):Nat):Int))) a2 n2 c2 l2:=((HS2.out.mono (it (Below.refl _ _) q)).mono HB5.out).store (HAWD.out (by omega)) _ _
     refine (tq _ _ _ _ _ hd5 HC2.out.1 hn2).mono ?_
     rintro e w6 ⟨v6,rfl,hv6,hb6,hf6⟩
     rw[HV2.out] at hv6
     have haw6:ry w.heap.size v6:=hf6.away (by have:=HBLK5.out.lt;simpa using this)
     have hav6:ck .u32 4294967296 w6 v5 (aA - b * 2 ^ k):=(HV5.out.store HAW5.out _ _).mono hb6
     have hblk6:=HSET.out.below hb6
     have hbel6:Below w.heap.size w w6:=((HBELr.out.trans (it (Below.refl _ _) q)).trans (HB5.out.mono HBELr.out.size)).setCell (p:=⟨w.heap.size,k / 32,none⟩) (Nat.le_refl _) (.int .u32 ((ql[k / 32]?.getD 0 + 2 ^ (k % 32):Nat):Int)) |>.trans (hb6.mono (by have:=HBELr.out.size;have:=HB5.out.size;simp at *;omega))
     have HAW6:=Lib.hid haw6
     have HAV6:=Lib.hid hav6
     have HBLK6:=Lib.hid hblk6
     have HBEL6:=Lib.hid hbel6
     have HV6:=Lib.hid hv6
     clear haw6 hav6 hblk6 hbel6 hv6 hf6 hb6 hd5 hmodw
     go_wp2
     go_roundw
     case rel=>
      refine⟨k,aA - b * 2 ^ k,_,by omega,rfl,HAV6.out,?_,HBLK6.out,by rw[List.length_set];exact HQL.out,HDS.out,?_,HSTEP.out.2.1,?_,by have:=HAA.out;omega,HBEL6.out,HAW5.out,fun _=>HAW6.out⟩
      ·intro j hj
       subst hj
       rw[←jf3]
       exact HV6.out
      ·rw[show (4294967296:Nat)=2 ^ 32 from rfl,HVS.out];exact HSTEP.out.1
      ·rw[show (4294967296:Nat)=2 ^ 32 from rfl,HVS.out];exact HSTEP.out.2.2
     all_goals first|(simp[intOf];done)|(simp[intOf];omega)
    ·have hord:=ws (show aA < b * 2 ^ k by omega)
     have HGE:=Lib.hid hge
     clear hge
     go_wp2_with fail
     refine (mf _ _ _ _ _ _ _ _ _ HS1.out HS2.out HC1.out HC2.out).mono ?_
     rintro e w' ⟨q,rfl,rfl⟩
     rw[HV1.out,HV2.out]
     go_wp2_with fail
     refine (tq _ _ _ _ _ (HS2.out.mono (it (Below.refl _ _) q)) HC2.out.1 hn2).mono ?_
     rintro e w6 ⟨v6,rfl,hv6,hb6,hf6⟩
     rw[HV2.out] at hv6
     have haw6:ry w.heap.size v6:=hf6.away (by have:=HBLKr.out.lt;simpa using this)
     have hs6:Sl .u32 w6 a1 n1 c1 l1:=(HS1.out.mono (it (Below.refl _ _) q)).mono hb6
     have hblk6:Blk .u32 150 w6 w.heap.size ql:=(HBLKr.out.drewN q).below hb6
     have hbel6:Below w.heap.size w w6:=(HBELr.out.trans (it (Below.refl _ _) q)).trans (hb6.mono HBELr.out.size)
     have HAW6:=Lib.hid haw6
     have HS6:=Lib.hid hs6
     have HBLK6:=Lib.hid hblk6
     have HBEL6:=Lib.hid hbel6
     have HV6:=Lib.hid hv6
     clear haw6 hs6 hblk6 hbel6 hv6 hf6 hb6
     go_wp2
     go_roundw
     case rel=>
      refine⟨k,aA,_,by omega,rfl,⟨_,_,_,_,rfl,HS6.out,HC1.out,HV1.out⟩,?_,HBLK6.out,HQL.out,HDQ.out,HVAL.out,by have:=HGE.out;omega,quo_skip HMOD.out,HAA.out,HBEL6.out,HAWA.out,fun _=>HAW6.out⟩
      intro j hj
      subst hj
      rw[←jf3]
      exact HV6.out
     all_goals first|(simp[intOf];done)|(simp[intOf];omega)
theorem kt (ao bo:Option Addr) (n c m d:Nat) (l l':List Nat) (w:World) (hs:Sl .u32 w ao n c l) (hs':Sl .u32 w bo m d l') (hd:bi 4294967296 l) (hd':bi 4294967296 l')
  (hn:n≤536870912) (hm:m≤536870912) (hb0:0 < val 4294967296 l'):
  Calls Tryz.prog 124 #[.slice ao n c,.slice bo m d] w (pu .u32 4294967296 w (val 4294967296 l / val 4294967296 l') (val 4294967296 l % val 4294967296 l')):=by
 by_cases h:m=1
 ·subst h
  exact je7 _ _ _ _ _ _ _ _ hs hs' hd.1 hd' hn
 ·exact zv _ _ _ _ _ _ _ _ _ hs hs' hd hd' hn hm h hb0
def uw (k:IntKind) (B K:Nat) (w:World) (v:Value) (x:Nat):Prop:=∃ao n c l,v=.slice ao n c∧Sl k w ao n c l∧bi B l∧val B l=x∧n≤K
theorem zu (ao bo:Option Addr) (n c m d:Nat) (l l':List Nat) (w:World) (hs:Sl .u32 w ao n c l) (hs':Sl .u32 w bo m d l') (hd:bi 4294967296 l) (hd':bi 4294967296 l')
  (hn:n≤536870912) (hm:m≤536870912):
  Calls Tryz.prog 123 #[.slice ao n c,.slice bo m d] w fun e w'=>∃v,e=.returned v∧ck .u32 4294967296 w' v (Nat.gcd (val 4294967296 l) (val 4294967296 l'))∧Below w.heap.size w w':=by
 have ha:uw .u32 4294967296 536870912 w (.slice ao n c) (val 4294967296 l):=⟨_,_,_,_,rfl,hs,hd,rfl,hn⟩
 have hb:uw .u32 4294967296 536870912 w (.slice bo m d) (val 4294967296 l'):=⟨_,_,_,_,rfl,hs',hd',rfl,hm⟩
 clear hs hs' hd hd' hn hm
 generalize hG:Nat.gcd (val 4294967296 l) (val 4294967296 l')=G
 generalize val 4294967296 l=A at *
 generalize val 4294967296 l'=C at *
 have HA:=Lib.hid ha
 have HB:=Lib.hid hb
 have HG:=Lib.hid hG
 clear ha hb hG
 go_enter Tryz.func123,Tryz.ntmps123
 go_wp2
 go_loopg [0,1] C (fun k av bv wr=>∃(x y:Nat),y≤k∧Nat.gcd x y=G∧uw .u32 4294967296 536870912 wr av x∧uw .u32 4294967296 536870912 wr bv y∧Below w.heap.size w wr)
 case atStart=>exact⟨A,C,Nat.le_refl _,HG.out,HA.out,HB.out,Below.refl _ _⟩
 case round=>
  obtain⟨x,y,hyk,hg,⟨a1,n1,c1,l1,rfl,hs1,hc1,hv1,hn1⟩,⟨a2,n2,c2,l2,rfl,hs2,hc2,hv2,hn2⟩,hbel⟩:=hrel
  have HS1:=Lib.hid hs1
  have HS2:=Lib.hid hs2
  have HC1:=Lib.hid hc1
  have HC2:=Lib.hid hc2
  have HV1:=Lib.hid hv1
  have HV2:=Lib.hid hv2
  have HBE:=Lib.hid hbel
  have HGG:=Lib.hid hg
  clear hs1 hs2 hc1 hc2 hv1 hv2 hbel hg
  by_cases h0:n2=0
  ·subst h0
   go_wp2
   go_ret
   have:l2=[]:=List.length_eq_zero_iff.1 HS2.out.len
   have h2:=HV2.out
   rw[this] at h2
   refine⟨_,rfl,⟨_,_,_,_,rfl,HS1.out,HC1.out,?_⟩,HBE.out⟩
   rw[HV1.out,←HGG.out,←h2]
   simp[val]
  ·have hpos:0 < y:=by have:=HC2.out.pos (by omega) (by rw[HS2.out.len];omega);rw[HV2.out] at this;exact this
   have hlt:=Nat.mod_lt x hpos
   go_wp2_with fail
   refine (kt _ _ _ _ _ _ _ _ _ HS1.out HS2.out HC1.out HC2.out hn1 hn2 (by rw[HV2.out];exact hpos)).mono ?_
   rintro e w1 ⟨v1,v2,rfl,_,⟨a3,n3,c3,l3,rfl,hs3,hc3,hv3⟩,hb⟩
   rw[HV1.out,HV2.out] at hv3
   have hn3:n3≤536870912:=by
    have:=hc3.length_le_of (by omega) HC2.out (by rw[hv3,HV2.out];omega)
    rw[hs3.len,HS2.out.len] at this
    omega
   have HS3:=Lib.hid hs3
   have HC3:=Lib.hid hc3
   have HV3:=Lib.hid hv3
   have HB3:=Lib.hid hb
   clear hs3 hc3 hv3 hb
   go_wp2
   go_roundg (x % y)
   case measure=>omega
   case rel=>
    refine⟨y,x % y,Nat.le_refl _,?_,⟨_,_,_,_,rfl,HS2.out.mono HB3.out,HC2.out,HV2.out,hn2⟩,⟨_,_,_,_,rfl,HS3.out,HC3.out,HV3.out,hn3⟩,HBE.out.trans (HB3.out.mono HBE.out.size)⟩
    rw[←HGG.out,Nat.gcd_comm x y,Nat.gcd_rec y x,Nat.gcd_comm]
end Go.Proofs.YtbnomdlojmgigaaGreat
namespace Go.Proofs.YtbnomdlojmgigaaGreat
open Go.RowKit Dg
def RetTake (w:World) (g n q:Nat) (A ol C:List Nat) (r:List Value) (V:Nat) (e:Ending) (w':World):Prop:=
 ∃ol',((val 18446744073709551616 ol < q * V∧e=.returned (.bool false)∧ol'=ol)∨
   (q * V≤val 18446744073709551616 ol∧e=.returned (.bool true)∧ol'.length=n + 1∧cj 18446744073709551616 ol'∧val 18446744073709551616 ol'=val 18446744073709551616 ol - q * V))∧
  iz .u64 108 w' g (A ++ ol' ++ C) r∧Only g w w'
theorem take_step (lv pl:List Nat) (k carry q hi lo x:Nat) (hk:k < pl.length) (hx:lv[k]?.getD 0=x) (hp:hi * 18446744073709551616 + lo=x * q)
  (h:val 18446744073709551616 (pl.take k) + carry * 18446744073709551616 ^ k=q * val 18446744073709551616 (lv.take k)):
  val 18446744073709551616 ((pl.set k ((lo + carry) % 18446744073709551616)).take (k + 1)) + (hi + (lo + carry) / 18446744073709551616) * 18446744073709551616 ^ (k + 1)=q * val 18446744073709551616 (lv.take (k + 1)):=by
 rw[gh _ _ _ _ hk,dj,hx,Nat.pow_succ]
 have h1:=Nat.div_add_mod (lo + carry) 18446744073709551616
 generalize (lo + carry) / 18446744073709551616=c at *
 generalize (lo + carry) % 18446744073709551616=d at *
 generalize val 18446744073709551616 (pl.take k)=X at *
 generalize val 18446744073709551616 (lv.take k)=Y at *
 generalize (18446744073709551616:Nat) ^ k=P at *
 have h2:P * (hi * 18446744073709551616 + lo)=P * (x * q):=by rw[hp]
 have h3:P * (18446744073709551616 * c + d)=P * (lo + carry):=by rw[h1]
 rw[Nat.mul_add] at h2 h3
 grind
theorem l_take_calls (g n cu cv q:Nat) (vo:Option Addr) (A ol C lv:List Nat) (r:List Value) (w:World) (hb:iz .u64 108 w g (A ++ ol ++ C) r) (hol:ol.length=n + 1) (hdo:cj 18446744073709551616 ol)
  (hcu:n + 1≤cu) (hcm:cu≤9223372036854775807) (hv:Sl .u64 w vo n cv lv) (hdv:cj 18446744073709551616 lv) (haw:ry g (.slice vo n cv)) (hq:q < 18446744073709551616) (hn:n≤1099511627776):
  Calls Tryz.prog 145 #[.slice (some ⟨g,A.length,none⟩) (n + 1) cu,.slice vo n cv,.int .u64 q] w (RetTake w g n q A ol C r (val 18446744073709551616 lv)):=by
 have hg:=hb.lt
 have HB:=Lib.hid hb;clear hb
 have HOL:=Lib.hid hol;clear hol
 have HDO:=Lib.hid hdo;clear hdo
 have HV:=Lib.hid hv;clear hv
 have HDV:=Lib.hid hdv;clear hdv
 have HAW:=Lib.hid haw;clear haw
 generalize hjA:A.length=j at *
 have HJ:=Lib.hid hjA;clear hjA
 obtain⟨i0,hi,hz0,hz1,hz2⟩:=info_parts kh
 go_enter Tryz.func145,Tryz.ntmps145
 go_wp2_with (at_make;refine co _ rfl _ _ 33 rfl 108 i0 .u64 Tryz.underlying33 hi hz0 hz1 _ _ _ _ (n + 1) (n + 1) rfl rfl ?c1 ?c2 (Nat.le_refl _) ?c3 ?c4 ?_)
 case c1=>omega
 case c2=>omega
 case c3=>rw[hz2];omega
 case c4=>omega
 go_loopw [8,22] (fun cv iv wr=>∃(k carry:Nat) (pl:List Nat),k≤n∧iv=.int .i64 k∧cv=.int .u64 carry∧carry < 18446744073709551616∧Blk .u64 108 wr w.heap.size pl∧pl.length=n + 1∧cj 18446744073709551616 pl∧
   val 18446744073709551616 (pl.take k) + carry * 18446744073709551616 ^ k=q * val 18446744073709551616 (lv.take k)∧Below w.heap.size w wr) (fun _ iv _=>n - (intOf iv).toNat)
 case atStart=>exact⟨0,0,_,by omega,rfl,rfl,by omega,Blk.new .u64 _ w _,by simp,cj.zeros (by omega) _,by simp[val],(Below.refl _ _).alloc (Nat.le_refl _) _⟩
 case round=>
  obtain⟨k,carry,pl,hk,rfl,rfl,hca,hblk,hpl,hdp,hval,hbel⟩:=hrel
  have HBP:=Lib.hid hblk
  have HPL:=Lib.hid hpl
  have HDP:=Lib.hid hdp
  have HVAL:=Lib.hid hval
  have HBE:=Lib.hid hbel
  have HE:=Lib.hid (HV.out.mono hbel)
  have d1:=HDV.out.get (by omega) k
  clear hblk hpl hdp hval hbel
  by_cases hkn:k < n
  ·obtain⟨b1,o1,rfl,hc1⟩:=HE.out.at hkn
   have hc2:=HBP.out.cell (j:=k) (by have:=HPL.out;omega)
   have hf2:=HBP.out.free k
   go_wp2_with fail
   refine (mul64 (lv[k]?.getD 0) q d1 hq _).mono ?_
   rintro e w' ⟨hi,lo,rfl,rfl,hp,hlo,hhi⟩
   have hprod:lv[k]?.getD 0 * q≤18446744073709551615 * 18446744073709551615:=Nat.mul_le_mul (by omega) (by omega)
   have hst:=take_step lv pl k carry q hi lo _ (by rw[HPL.out];omega) rfl hp HVAL.out
   have HST:=Lib.hid hst
   rw[←hp] at hprod
   clear hp hst
   have A1:=uy (lo:Int) (carry:Int) (by omega) (by omega)
   have hT:(hi:Int) + ((lo:Int) + (carry:Int)) / 18446744073709551616 < 18446744073709551616:=by omega
   go_wp2
   go_roundw
   case rel=>
    refine⟨k + 1,hi + (lo + carry) / 18446744073709551616,pl.set k ((lo + carry) % 18446744073709551616),by omega,by go_num,by simp,by omega,?_,by rw[List.length_set];exact HPL.out,HDP.out.set _ _ (Nat.mod_lt _ (by omega)),HST.out,HBE.out.setCell (Nat.le_refl _) _⟩
    exact HBP.out.set _ _
   all_goals first|(simp[intOf];done)|(simp[intOf];omega)
  ·obtain rfl:k=n:=by omega
   have hc2:=HBP.out.cell (j:=k) (by have:=HPL.out;omega)
   have hf2:=HBP.out.free k
   have hblk2:=HBP.out.set k carry
   have hv2:val 18446744073709551616 (pl.set k carry)=q * val 18446744073709551616 lv:=by
    have h1:=gh 18446744073709551616 pl k carry (by rw[HPL.out];omega)
    rw[bg _ _ (k + 1) (by rw[List.length_set,HPL.out];omega)] at h1
    rw[h1,Nat.mul_comm _ carry,HVAL.out,bg _ lv k (by have:=HV.out.len;omega)]
   have hd2:=HDP.out.set k carry hca
   have hl2:(pl.set k carry).length=k + 1:=by rw[List.length_set];exact HPL.out
   have hbe2:=HBE.out.setCell (p:=⟨w.heap.size,k,none⟩) (Nat.le_refl _) (.int .u64 (carry:Int))
   clear HBP HPL HDP HVAL HBE
   generalize pl.set k carry=pl2 at *
   have HBP:=Lib.hid hblk2
   have HV2:=Lib.hid hv2
   have HD2:=Lib.hid hd2
   have HL2:=Lib.hid hl2
   have HBE:=Lib.hid hbe2
   clear hblk2 hv2 hd2 hl2 hbe2
   go_wp2_with fail
   have hbb:=HB.out.below HBE.out
   have hslu:=hbb.sl cu (by rw[HOL.out];omega) hcm
   rw[HOL.out,HJ.out] at hslu
   have hslp:=HBP.out.sl (by have:=HL2.out;omega)
   rw[HL2.out] at hslp
   refine (gw _ _ _ ol _ hslu HDO.out).mono ?_
   rintro e w' ⟨m1,hm1,hcan1,hval1,rfl,rfl⟩
   have HS1:=Lib.hid (hslu.take m1 hm1)
   have HBB:=Lib.hid hbb
   clear hslu hbb
   go_wp2_with fail
   refine (gw _ _ _ pl2 _ hslp HD2.out).mono ?_
   rintro e w' ⟨m2,hm2,hcan2,hval2,rfl,rfl⟩
   have HS2:=Lib.hid (hslp.take m2 hm2)
   clear hslp
   go_wp2_with fail
   refine (mj _ _ _ _ _ _ _ _ _ HS1.out HS2.out hcan1 hcan2).mono ?_
   rintro e w' ⟨nq,rfl,rfl⟩
   rw[hval1,hval2,HV2.out]
   clear hval1 hval2 hcan1 hcan2 HS1 HS2
   generalize (wr.setCell ⟨w.heap.size,k,none⟩ (.int .u64 (carry:Int)))=w1 at *
   by_cases hlt:val 18446744073709551616 ol < q * val 18446744073709551616 lv
   ·have hord:=ws hlt
    have HLT:=Lib.hid hlt
    clear hlt
    go_wp2
    go_ret
    exact⟨ol,.inl ⟨HLT.out,rfl,rfl⟩,HBB.out.drewN nq,(Only.of_below HBE.out).drawN nq⟩
   ·have hord:=ub (show q * val 18446744073709551616 lv≤val 18446744073709551616 ol by omega)
    have HLE:=Lib.hid (show q * val 18446744073709551616 lv≤val 18446744073709551616 ol by omega)
    have HNE:=Lib.hid (show w.heap.size≠g by omega)
    clear hlt
    go_wp2
    go_loopw [14,59] (fun cv iv wr=>∃(i borrow:Nat) (o2:List Nat),i≤k + 1∧iv=.int .i64 i∧cv=.int .u64 borrow∧borrow≤1∧iz .u64 108 wr g (A ++ o2 ++ C) r∧o2.length=k + 1∧cj 18446744073709551616 o2∧(∀t,i≤t→o2[t]?.getD 0=ol[t]?.getD 0)∧
      val 18446744073709551616 (o2.take i) + val 18446744073709551616 (pl2.take i)=val 18446744073709551616 (ol.take i) + borrow * 18446744073709551616 ^ i∧Only g w wr∧Blk .u64 108 wr w.heap.size pl2) (fun _ iv _=>k + 1 - (intOf iv).toNat)
    case atStart=>exact⟨0,0,ol,by omega,rfl,rfl,by omega,HBB.out.drewN nq,HOL.out,HDO.out,fun _ _=>rfl,by simp[val],(Only.of_below HBE.out).drawN nq,HBP.out.drewN nq⟩
    case round=>
     obtain⟨i,borrow,o2,hi1,rfl,rfl,hbo,hbl,ho2,hd2,hsame,hval,honly,hbp⟩:=hrel
     by_cases hik:i < k + 1
     ·have hcu':(i:Int) < ((k + 1:Nat):Int):=by omega
      have hcell:=hbl.cell (j:=A.length + i) (by simp;omega)
      rw[get_mid _ _ _ _ (by omega),hsame i (Nat.le_refl _),HJ.out] at hcell
      have hfree:=hbl.free (j + i)
      have hcp:=hbp.cell (j:=i) (by rw[HL2.out];omega)
      have x1:=HDO.out.get (by omega) i
      have x2:=HD2.out.get (by omega) i
      have hset:∀y:Nat,iz .u64 108 (wr.setCell ⟨g,j + i,none⟩ (.int .u64 (y:Int))) g (A ++ o2.set i y ++ C) r:=by
       intro y
       have:=hbl.set (A.length + i) y (by simp;omega)
       rw[set_mid _ _ _ _ _ (by omega),HJ.out] at this
       exact this
      have fin:∀(wf:World) (x nb:Int),x=(((ol[i]?.getD 0:Nat):Int) - ((pl2[i]?.getD 0:Nat):Int) - borrow) % 18446744073709551616→nb=bor ((ol[i]?.getD 0:Nat):Int) ((pl2[i]?.getD 0:Nat):Int) borrow→wf=(wr.drew).setCell ⟨g,j + i,none⟩ (.int .u64 x)→
        ∃(i' borrow':Nat) (o2:List Nat),i'≤k + 1∧Value.int .i64 ((i:Int) + 1)=.int .i64 i'∧Value.int .u64 nb=.int .u64 borrow'∧borrow'≤1∧iz .u64 108 wf g (A ++ o2 ++ C) r∧o2.length=k + 1∧cj 18446744073709551616 o2∧(∀t,i'≤t→o2[t]?.getD 0=ol[t]?.getD 0)∧
        val 18446744073709551616 (o2.take i') + val 18446744073709551616 (pl2.take i')=val 18446744073709551616 (ol.take i') + borrow' * 18446744073709551616 ^ i'∧Only g w wf∧Blk .u64 108 wf w.heap.size pl2:=by
       intro wf x nb hx hnb hwf
       obtain⟨y,rfl⟩:=Int.eq_ofNat_of_zero_le (show 0≤x by omega)
       have hnb':nb=0∨nb=1:=by rw[hnb];unfold bor;split<;>simp
       obtain⟨nb,rfl⟩:=Int.eq_ofNat_of_zero_le (show 0≤nb by omega)
       have hx':y + (borrow + pl2[i]?.getD 0)=ol[i]?.getD 0 + nb * 18446744073709551616:=by
        unfold bor at hnb
        split at hnb<;>omega
       refine⟨i + 1,nb,o2.set i y,by omega,by go_num,rfl,by omega,?_,by rw[List.length_set];exact ho2,hd2.set _ _ (by omega),?_,?_,?_,?_⟩
       ·rw[hwf];exact hset y
       ·intro t ht
        rw[na _ _ _ _ (by omega),if_neg (by omega)]
        exact hsame t (by omega)
       ·exact jc6 _ _ _ _ _ borrow (by rw[ho2];exact hik) hval y y nb hx' rfl
       ·rw[hwf];exact honly.drew.setCell _ _
       ·rw[hwf];exact (hbp.drewN 1).only ((Only.refl g _).setCell (j + i) (.int .u64 (y:Int))) HNE.out
      have FIN:=Lib.hid fin
      clear fin hbl ho2 hd2 hsame hval honly hbp hset
      have A1:=sub64 ((ol[i]?.getD 0:Nat):Int) ((pl2[i]?.getD 0:Nat):Int) (borrow:Int) (by omega) (by omega) (by omega) (by omega) (by omega)
      go_wp2
      go_region
      go_wp2
      go_roundw
      case rel=>exact FIN.out _ _ _ rfl rfl rfl
      all_goals first|(simp[intOf];done)|(simp[intOf];omega)
     ·obtain rfl:i=k + 1:=by omega
      have hfin:val 18446744073709551616 o2=val 18446744073709551616 ol - q * val 18446744073709551616 lv:=by
       have:=dif_end (by omega) hd2 (l:=ol) (l':=pl2) (by rw[ho2,HOL.out]) (by rw[HL2.out,HOL.out];omega) (by rw[HV2.out];exact HLE.out) (by rw[ho2];exact hval)
       rw[HV2.out] at this
       exact this
      have FIN:=Lib.hid (show RetTake w g k q A ol C r (val 18446744073709551616 lv) (.returned (.bool true)) wr from ⟨o2,.inr ⟨HLE.out,rfl,ho2,hd2,hfin⟩,hbl,honly⟩)
      clear hbl ho2 hd2 hsame hval honly hbp hfin
      go_wp2
      go_ret
      exact FIN.out
end Go.Proofs.YtbnomdlojmgigaaGreat
