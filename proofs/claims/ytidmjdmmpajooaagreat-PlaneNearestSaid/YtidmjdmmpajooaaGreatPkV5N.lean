/-
  Plain facts on digits, fourth part: shifts by bits, and the guess of a digit of a quotient.
-/
import Derived.Test.YtidmjdmmpajooaaGreatPkV1N
import Derived.Test.YtidmjdmmpajooaaGreatPkV4N
import Derived.StillTailTactics
import Derived.Deep.CutBlock
set_option linter.unusedSimpArgs false
set_option linter.unusedVariables false
set_option maxRecDepth 100000
set_option maxHeartbeats 2000000
namespace Go.Proofs.YtidmjdmmpajooaaGreat.Dg
theorem or_add (s a b:Nat) (ha:a % 2 ^ s=0) (hb:b < 2 ^ s):a ||| b=a + b:=by
 have h:=Nat.div_add_mod a (2 ^ s)
 rw[ha,Nat.add_zero] at h
 rw[←h,Nat.two_pow_add_eq_or_of_lt hb]
theorem or_add' (s a b:Nat) (ha:a % 2 ^ s=0) (hb:b < 2 ^ s):b ||| a=a + b:=by rw[Nat.or_comm,or_add s a b ha hb]
theorem shl_mod (s x:Nat) (hs:s≤64):x * 2 ^ s % 18446744073709551616 % 2 ^ s=0:=by
 rw[show (18446744073709551616:Nat)=2 ^ s * 2 ^ (64 - s) from by rw[←Nat.pow_add,show s + (64 - s)=64 from by omega]]
 rw[Nat.mod_mul_right_mod,Nat.mul_mod_left]
theorem shr_eq (s x:Nat) (hs:s≤64):x / 2 ^ (64 - s)=x * 2 ^ s / 18446744073709551616:=by
 rw[show (18446744073709551616:Nat)=2 ^ (64 - s) * 2 ^ s from by rw[←Nat.pow_add,show 64 - s + s=64 from by omega]]
 rw[Nat.mul_div_mul_right _ _ (Nat.pow_pos (by omega))]
theorem shr_lt (s x:Nat) (hx:x < 18446744073709551616):x * 2 ^ s / 18446744073709551616 < 2 ^ s:=by
 rw[Nat.div_lt_iff_lt_mul (by omega),Nat.mul_comm]
 exact Nat.mul_lt_mul_of_pos_left hx (Nat.pow_pos (by omega))
theorem left_step (l ol:List Nat) (i q s:Nat) (hk:i + q + 1 < ol.length) (hs:s < 64) (hd:cj 18446744073709551616 ol) (hl:l[i]?.getD 0 < 18446744073709551616)
  (h:val 18446744073709551616 ol=val 18446744073709551616 (l.take i) * 2 ^ s * 18446744073709551616 ^ q) (hc:ol[i + q]?.getD 0 < 2 ^ s) (hz:∀j,i + q < j→ol[j]?.getD 0=0):
  let ol':=(ol.set (i + q) (ol[i + q]?.getD 0 ||| (l[i]?.getD 0 * 2 ^ s % 18446744073709551616))).set (i + q + 1) (l[i]?.getD 0 / 2 ^ (64 - s))
  val 18446744073709551616 ol'=val 18446744073709551616 (l.take (i + 1)) * 2 ^ s * 18446744073709551616 ^ q∧ol'[i + 1 + q]?.getD 0 < 2 ^ s∧(∀j,i + 1 + q < j→ol'[j]?.getD 0=0)∧cj 18446744073709551616 ol'∧ol'.length=ol.length:=by
 intro ol'
 have e1:=or_add' s _ _ (shl_mod s (l[i]?.getD 0) (by omega)) hc
 have hlt:ol[i + q]?.getD 0 ||| (l[i]?.getD 0 * 2 ^ s % 18446744073709551616) < 18446744073709551616:=Nat.or_lt_two_pow (n:=64) (hd.get (by omega) _) (Nat.mod_lt _ (by omega))
 have e2:=shr_eq s (l[i]?.getD 0) (by omega)
 have hlt2:=shr_lt s _ hl
 refine⟨?_,?_,?_,?_,by simp[ol']⟩
 ·have h1:=ui 18446744073709551616 ol (i + q) (ol[i + q]?.getD 0 ||| (l[i]?.getD 0 * 2 ^ s % 18446744073709551616)) (by omega)
  have h2:=ui 18446744073709551616 (ol.set (i + q) (ol[i + q]?.getD 0 ||| (l[i]?.getD 0 * 2 ^ s % 18446744073709551616))) (i + q + 1) (l[i]?.getD 0 / 2 ^ (64 - s)) (by rw[List.length_set];omega)
  rw[na _ _ _ _ (by omega),if_neg (by omega),hz (i + q + 1) (by omega),Nat.mul_zero,Nat.add_zero] at h2
  show val _ ol'=_
  rw[h2,dj]
  rw[e1] at h1 ⊢
  rw[e2]
  have h3:=Nat.div_add_mod (l[i]?.getD 0 * 2 ^ s) 18446744073709551616
  generalize l[i]?.getD 0 * 2 ^ s / 18446744073709551616=hi at *
  generalize l[i]?.getD 0 * 2 ^ s % 18446744073709551616=lo at *
  rw[Nat.pow_add] at h1
  rw[Nat.pow_succ,Nat.pow_add]
  generalize val 18446744073709551616 (ol.set (i + q) (lo + ol[i + q]?.getD 0))=X at *
  generalize val 18446744073709551616 ol=Y at *
  generalize val 18446744073709551616 (l.take i)=Z at *
  generalize 18446744073709551616 ^ i=Bi at *
  generalize 18446744073709551616 ^ q=Bq at *
  generalize l[i]?.getD 0=x at *
  generalize ol[i + q]?.getD 0=o at *
  generalize 2 ^ s=p at *
  grind
 ·show (ol'[i + 1 + q]?.getD 0) < _
  rw[na _ _ _ _ (by rw[List.length_set];omega),if_pos (by omega),e2]
  exact hlt2
 ·intro j hj
  rw[na _ _ _ _ (by rw[List.length_set];omega),if_neg (by omega),na _ _ _ _ (by omega),if_neg (by omega)]
  exact hz j (by omega)
 ·refine (hd.set _ _ hlt).set _ _ ?_
  rw[e2]
  have:2 ^ s≤2 ^ 64:=Nat.pow_le_pow_right (by omega) (by omega)
  have e:(2:Nat) ^ 64=18446744073709551616:=rfl
  omega
theorem right_step (m ol:List Nat) (i s:Nat) (hk:i < ol.length) (hs:s < 64) (hm:cj 18446744073709551616 m)
  (h:val 18446744073709551616 (ol.take i) * 2 ^ s + m[0]?.getD 0 % 2 ^ s=val 18446744073709551616 (m.take i) + m[i]?.getD 0 % 2 ^ s * 18446744073709551616 ^ i):
  let d:=m[i]?.getD 0 / 2 ^ s ||| (m[i + 1]?.getD 0 * 2 ^ (64 - s) % 18446744073709551616)
  d < 18446744073709551616∧val 18446744073709551616 ((ol.set i d).take (i + 1)) * 2 ^ s + m[0]?.getD 0 % 2 ^ s=val 18446744073709551616 (m.take (i + 1)) + m[i + 1]?.getD 0 % 2 ^ s * 18446744073709551616 ^ (i + 1):=by
 intro d
 have hB:(18446744073709551616:Nat)=2 ^ s * 2 ^ (64 - s):=by rw[←Nat.pow_add,show s + (64 - s)=64 from by omega]
 have h1:=hm.get (by omega) i
 have e1:m[i + 1]?.getD 0 * 2 ^ (64 - s) % 18446744073709551616=m[i + 1]?.getD 0 % 2 ^ s * 2 ^ (64 - s):=by
  rw[hB,Nat.mul_mod_mul_right]
 have hlo:m[i]?.getD 0 / 2 ^ s < 2 ^ (64 - s):=by
  rw[Nat.div_lt_iff_lt_mul (Nat.pow_pos (by omega)),Nat.mul_comm,←hB];exact h1
 have e2:d=m[i + 1]?.getD 0 % 2 ^ s * 2 ^ (64 - s) + m[i]?.getD 0 / 2 ^ s:=by
  show _ ||| _=_
  rw[e1]
  exact or_add' (64 - s) _ _ (Nat.mul_mod_left _ _) hlo
 have hd:d < 18446744073709551616:=by
  refine Nat.or_lt_two_pow (n:=64) ?_ (Nat.mod_lt _ (by omega))
  exact Nat.lt_of_le_of_lt (Nat.div_le_self _ _) h1
 refine⟨hd,?_⟩
 rw[gh _ _ _ _ hk,dj,e2,Nat.pow_succ]
 have h3:=Nat.div_add_mod (m[i]?.getD 0) (2 ^ s)
 generalize m[i]?.getD 0 / 2 ^ s=hi at *
 generalize m[i]?.getD 0 % 2 ^ s=lo at *
 generalize m[i + 1]?.getD 0 % 2 ^ s=lo' at *
 generalize 2 ^ (64 - s)=H at *
 generalize 2 ^ s=p at *
 generalize val 18446744073709551616 (ol.take i)=X at *
 generalize val 18446744073709551616 (m.take i)=Y at *
 generalize m[i]?.getD 0=x at *
 generalize 18446744073709551616 ^ i=Bi at *
 clear e1 e2 hd hlo h1 hm d
 rw[hB]
 grind
theorem right_end (m ol:List Nat) (s:Nat) (h0:ol.length=m.length)
  (h:val 18446744073709551616 (ol.take m.length) * 2 ^ s + m[0]?.getD 0 % 2 ^ s=val 18446744073709551616 (m.take m.length) + m[m.length]?.getD 0 % 2 ^ s * 18446744073709551616 ^ m.length):
  val 18446744073709551616 ol=val 18446744073709551616 m / 2 ^ s:=by
 rw[bg _ _ _ (by omega),bg _ _ _ (Nat.le_refl _),List.getElem?_eq_none (Nat.le_refl _)] at h
 simp only[Option.getD_none,Nat.zero_mod,Nat.zero_mul,Nat.add_zero] at h
 have h1:=Nat.mod_lt (m[0]?.getD 0) (show 0 < 2 ^ s from Nat.pow_pos (by omega))
 exact (nf h h1).1
theorem val_drop_div {l:List Nat} (hl:cj 18446744073709551616 l) (q:Nat):val 18446744073709551616 (l.drop q)=val 18446744073709551616 l / 18446744073709551616 ^ q:=by
 rcases Nat.lt_or_ge q l.length with h|h
 ·have h1:=lj 18446744073709551616 l q (by omega)
  have h2:=gp (by omega) (hl.take q)
  rw[List.length_take,Nat.min_eq_left (by omega)] at h2
  exact (nf (by rw[h1,Nat.mul_comm,Nat.add_comm]) h2).1
 ·rw[List.drop_of_length_le h]
  have h2:=gp (by omega) hl
  have:18446744073709551616 ^ l.length≤18446744073709551616 ^ q:=Nat.pow_le_pow_right (by omega) h
  rw[Nat.div_eq_of_lt (by omega)]
  rfl
theorem pow_split (k:Nat):2 ^ (k % 64) * 18446744073709551616 ^ (k / 64)=2 ^ k:=by
 rw[show (18446744073709551616:Nat)=2 ^ 64 from rfl,←Nat.pow_mul,←Nat.pow_add]
 congr 1
 omega
theorem ze (U a b u:Nat) (ha:0 < a) (hu:u < 4294967296):(U * 4294967296 + u) / (a * 4294967296 + b)≤U / a:=by
 have h1:=Nat.div_add_mod U a
 have h2:=Nat.mod_lt U ha
 apply Nat.le_of_lt_succ
 rw[Nat.div_lt_iff_lt_mul (by omega)]
 generalize U / a=q at *
 generalize U % a=r at *
 subst h1
 rw[Nat.succ_mul]
 have:q * (a * 4294967296 + b)=a * q * 4294967296 + q * b:=by grind
 rw[this]
 omega
theorem guess_big {U a b u q r:Nat} (h:q * a + r=U) (hU:U < a * 4294967296 + b) (hu:u < 4294967296) (hbig:4294967296≤q∨4294967296 * r + u < q * b):(U * 4294967296 + u) / (a * 4294967296 + b) < q:=by
 rw[Nat.div_lt_iff_lt_mul (by omega)]
 have e:q * (a * 4294967296 + b)=q * a * 4294967296 + q * b:=by grind
 rcases hbig with hq|hq
 ·have:4294967296 * (a * 4294967296 + b)≤q * (a * 4294967296 + b):=Nat.mul_le_mul_right _ hq
  omega
 ·rw[e]
  omega
theorem jd4 {U a b u q r:Nat} (ha:0 < a) (h:q * a + r=U) (hle:(U * 4294967296 + u) / (a * 4294967296 + b)≤q) (hq:q * b≤4294967296 * r + u):(U * 4294967296 + u) / (a * 4294967296 + b)=q:=by
 refine Nat.le_antisymm hle ?_
 rw[Nat.le_div_iff_mul_le (by omega)]
 have e:q * (a * 4294967296 + b)=q * a * 4294967296 + q * b:=by grind
 omega
theorem guess_le {U a b u:Nat} (hU:U < a * 4294967296 + b) (hu:u < 4294967296):(U * 4294967296 + u) / (a * 4294967296 + b) < 4294967296:=by
 rw[Nat.div_lt_iff_lt_mul (by omega)]
 omega
end Go.Proofs.YtidmjdmmpajooaaGreat.Dg
namespace Go.Proofs.YtidmjdmmpajooaaGreat
open Go.RowKit Dg
theorem jo (x:Int) (h0: -9223372036854775808≤x) (h1:x≤9223372036854775807):IntKind.i64.wrap x=x:=by
 simp[IntKind.wrap,IntKind.bits,IntKind.signed];omega
theorem ts (x s:Nat):IntKind.u64.wrap ((x:Int) * 2 ^ s)=((x * 2 ^ s % 18446744073709551616:Nat):Int):=by
 show ((x:Int) * 2 ^ s) % 18446744073709551616=_
 simp
theorem xf (x s:Nat):(x:Int) / 2 ^ s=((x / 2 ^ s:Nat):Int):=by simp
theorem wd (ao:Option Addr) (n c:Nat) (l:List Nat) (k:Nat) (w:World) (hs:Sl .u64 w ao n c l) (hd:bi 18446744073709551616 l) (hn:n≤1099511627776) (hk:k≤1099511627776):
  Calls Tryz.prog 93 #[.slice ao n c,.int .i64 k] w (RetL w (val 18446744073709551616 l * 2 ^ k)):=by
 have HN:=Lib.hid (ck.sl hs hd)
 have HS:=Lib.hid hs;clear hs
 have HD:=Lib.hid hd;clear hd
 by_cases hn0:n=0
 ·subst hn0
  go_enter Tryz.func93,Tryz.ntmps93
  go_wp2
  go_ret
  refine⟨_,rfl,?_,Below.refl _ _⟩
  have:l=[]:=List.length_eq_zero_iff.1 HS.out.len
  subst this
  rw[val,Nat.zero_mul]
  exact HN.out
 ·by_cases hk0:k=0
  ·subst hk0
   have hn0':((n:Int) == 0)=false:=by rw[beq_eq_false_iff_ne];omega
   have hnn:n≠0:=hn0
   clear hn0
   go_enter Tryz.func93,Tryz.ntmps93
   go_wp2
   go_ret
   refine⟨_,rfl,?_,Below.refl _ _⟩
   rw[Nat.pow_zero,Nat.mul_one]
   exact HN.out
  ·have hn0':((n:Int) == 0)=false:=by rw[beq_eq_false_iff_ne];omega
   have hk0':((k:Int) == 0)=false:=by rw[beq_eq_false_iff_ne];omega
   clear hn0 hk0
   obtain⟨i0,hi,hz0,hz1,hz2⟩:=info_parts kh
   go_enter Tryz.func93,Tryz.ntmps93
   go_wp2_with (at_make;refine co _ rfl _ _ 35 rfl 95 i0 .u64 Tryz.underlying35 hi hz0 hz1 _ _ _ _ (n + k / 64 + 1) (n + k / 64 + 1) rfl rfl ?c1 ?c2 (Nat.le_refl _) ?c3 ?c4 ?_)
   case c1=>omega
   case c2=>omega
   case c3=>rw[hz2];omega
   case c4=>omega
   go_loopw [25] (fun iv wr=>∃(i:Nat) (ol:List Nat),i≤n∧iv=.int .i64 i∧Blk .u64 95 wr w.heap.size ol∧ol.length=n + k / 64 + 1∧cj 18446744073709551616 ol∧(∀j,i + k / 64 < j→ol[j]?.getD 0=0)∧
     ol[i + k / 64]?.getD 0 < 2 ^ (k % 64)∧val 18446744073709551616 ol=val 18446744073709551616 (l.take i) * 2 ^ (k % 64) * 18446744073709551616 ^ (k / 64)∧Below w.heap.size w wr) (fun iv _=>n - (intOf iv).toNat)
   case atStart=>
    refine⟨0,_,by omega,rfl,Blk.new .u64 _ w _,by simp,cj.zeros (by omega) _,by intro j hj;by_cases h:j < n + k / 64 + 1<;>simp[h],?_,by simp[val,nw],(Below.refl _ _).alloc (Nat.le_refl _) _⟩
    have:=Nat.pow_pos (n:=k % 64) (show 0 < 2 by omega)
    by_cases h:k / 64 < n + k / 64 + 1<;>simp[h]<;>exact this
   case round=>
    obtain⟨i,ol,hin,rfl,hblk,hol,hdo,hzo,htop,hval,hbel⟩:=hrel
    have HB:=Lib.hid hblk
    have HO:=Lib.hid hol
    have HV:=Lib.hid hval
    have HDO:=Lib.hid hdo
    have HBE:=Lib.hid hbel
    have HZO:=Lib.hid hzo
    have HT:=Lib.hid htop
    have HE1:=Lib.hid (HS.out.mono hbel)
    have d1:=HD.out.1.get (by omega) i
    clear hblk hol hval hdo hbel hzo htop
    by_cases hiL:i < n
    ·obtain⟨b1,o1,rfl,hca⟩:=HE1.out.at hiL
     have hc1:=HB.out.cell (j:=i + k / 64) (by have:=HO.out;omega)
     have hf1:=HB.out.free (i + k / 64)
     have hbd:0≤(i:Int) + (k:Int) / 64∧(i:Int) + (k:Int) / 64 < ((n + k / 64 + 1:Nat):Int):=by omega
     have hw1:IntKind.i64.wrap ((k:Int) / 64)=(k:Int) / 64:=jo _ (by omega) (by omega)
     have hw2:IntKind.i64.wrap ((i:Int) + (k:Int) / 64)=(i:Int) + (k:Int) / 64:=jo _ (by omega) (by omega)
     have hw3:((i:Int) + (k:Int) / 64).toNat=i + k / 64:=by omega
     have hbd2:(i:Int) + (k:Int) / 64 < (n:Int) + (k:Int) / 64 + 1:=by omega
     have hmt:(k:Int).tmod 64=(k:Int) % 64:=Int.tmod_eq_emod_of_nonneg (by omega)
     have hm0:0≤(k:Int) % 64:=by omega
     have hm1:((k:Int) % 64).toNat=k % 64:=by omega
     have hm2:min (k % 64) 64=k % 64:=by omega
     have hm3:(64 - (k:Int) % 64).toNat=64 - k % 64:=by omega
     have hm4:min (64 - k % 64) 64=64 - k % 64:=by omega
     have hm5:0≤64 - (k:Int) % 64:=by omega
     have hb3:0≤(i:Int) + (k:Int) / 64 + 1∧(i:Int) + (k:Int) / 64 + 1 < ((n + k / 64 + 1:Nat):Int):=by omega
     have hb4:(i:Int) + (k:Int) / 64 + 1 < (n:Int) + (k:Int) / 64 + 1:=by omega
     have hw5:((i:Int) + (k:Int) / 64 + 1).toNat=i + k / 64 + 1:=by omega
     have hc2:=HB.out.cell (j:=i + k / 64 + 1) (by have:=HO.out;omega)
     have hf2:=HB.out.free (i + k / 64 + 1)
     have hstep:=left_step l ol i (k / 64) (k % 64) (by have:=HO.out;omega) (by omega) HDO.out d1 HV.out HT.out HZO.out
     have hshl:=ts (l[i]?.getD 0) (k % 64)
     have hlt:=Nat.mod_lt (l[i]?.getD 0 * 2 ^ (k % 64)) (show 0 < 18446744073709551616 by omega)
     have hshr:=xf (l[i]?.getD 0) (64 - k % 64)
     have d3:=HDO.out.get (by omega) (i + k / 64)
     generalize l[i]?.getD 0 * 2 ^ (k % 64) % 18446744073709551616=z at *
     generalize l[i]?.getD 0 / 2 ^ (64 - k % 64)=y at *
     have hor:=u64_or_nat _ _ d3 hlt
     have hset1:=HB.out.set (i + k / 64) (ol[i + k / 64]?.getD 0 ||| z)
     generalize ol[i + k / 64]?.getD 0 ||| z=u at *
     have hset2:=hset1.set (i + k / 64 + 1) y
     have HST:=Lib.hid hstep
     have HS2:=Lib.hid hset2
     clear hstep hset1 hset2
     go_wp2
     go_still_tail 13,(by kernel_rfl)
     change wpList _ _ _ _ _ (World.drew _)
     go_wp2
     go_roundw
     case rel=>
      refine⟨i + 1,_,by omega,by go_num,HS2.out,by rw[HST.out.2.2.2.2];exact HO.out,HST.out.2.2.2.1,HST.out.2.2.1,HST.out.2.1,HST.out.1,?_⟩
      exact ((HBE.out.setCell (Nat.le_refl _) _).drew).setCell (Nat.le_refl _) _
     all_goals first|(simp[intOf];done)|(simp[intOf];omega)
    ·obtain rfl:i=n:=by omega
     go_wp2_with fail
     refine (gw _ _ _ ol _ (by have:=HB.out.sl (by have:=HO.out;omega);rw[HO.out] at this;exact this) HDO.out).mono ?_
     rintro e w' ⟨j,hj,hcj,hvj,rfl,rfl⟩
     go_wp2
     go_ret
     refine⟨_,rfl,⟨_,_,_,_,rfl,(by have:=HB.out.sl (by have:=HO.out;omega);rw[HO.out] at this;exact this.take j hj),hcj,?_⟩,HBE.out⟩
     rw[hvj,HV.out,bg _ l i (by have:=HS.out.len;omega),Nat.mul_assoc,pow_split]
theorem l_right_calls (ao:Option Addr) (n c:Nat) (l:List Nat) (k:Nat) (w:World) (hs:Sl .u64 w ao n c l) (hd:cj 18446744073709551616 l) (hn:n≤1099511627776) (hk:k≤1099511627776):
  Calls Tryz.prog 95 #[.slice ao n c,.int .i64 k] w (RetL w (val 18446744073709551616 l / 2 ^ k)):=by
 have HS:=Lib.hid hs;clear hs
 have HD:=Lib.hid hd;clear hd
 by_cases hlen:n≤k / 64
 ·go_enter Tryz.func95,Tryz.ntmps95
  go_wp2
  go_ret
  refine⟨_,rfl,⟨_,_,_,[],rfl,Sl.empty _ _ _ _ (by omega) (fun _=>rfl),bi.nil _,?_⟩,Below.refl _ _⟩
  have h1:=gp (by omega) HD.out
  rw[HS.out.len,show (18446744073709551616:Nat)=2 ^ 64 from rfl,←Nat.pow_mul] at h1
  have h2:2 ^ (64 * n)≤2 ^ k:=Nat.pow_le_pow_right (by omega) (by omega)
  rw[show (18446744073709551616:Nat)=2 ^ 64 from rfl,Nat.div_eq_of_lt (by omega)]
  rfl
 ·have hlen':k / 64 < n:=by omega
  clear hlen
  obtain⟨i0,hi,hz0,hz1,hz2⟩:=info_parts kh
  go_enter Tryz.func95,Tryz.ntmps95
  go_wp2_with (at_make;refine co _ rfl _ _ 35 rfl 95 i0 .u64 Tryz.underlying35 hi hz0 hz1 _ _ _ _ (n - k / 64) (n - k / 64) rfl rfl ?c1 ?c2 (Nat.le_refl _) ?c3 ?c4 ?_)
  case c1=>omega
  case c2=>omega
  case c3=>rw[hz2];omega
  case c4=>omega
  go_loopw [20] (fun iv wr=>∃(i:Nat) (ol:List Nat),i≤n - k / 64∧iv=.int .i64 i∧Blk .u64 95 wr w.heap.size ol∧ol.length=n - k / 64∧cj 18446744073709551616 ol∧
    val 18446744073709551616 (ol.take i) * 2 ^ (k % 64) + (l.drop (k / 64))[0]?.getD 0 % 2 ^ (k % 64)=val 18446744073709551616 ((l.drop (k / 64)).take i) + (l.drop (k / 64))[i]?.getD 0 % 2 ^ (k % 64) * 18446744073709551616 ^ i∧Below w.heap.size w wr) (fun iv _=>n - k / 64 - (intOf iv).toNat)
  case atStart=>exact⟨0,_,by omega,rfl,Blk.new .u64 _ w _,by simp,cj.zeros (by omega) _,by simp[val],(Below.refl _ _).alloc (Nat.le_refl _) _⟩
  case round=>
   obtain⟨i,ol,hin,rfl,hblk,hol,hdo,hval,hbel⟩:=hrel
   have HB:=Lib.hid hblk
   have HO:=Lib.hid hol
   have HV:=Lib.hid hval
   have HDO:=Lib.hid hdo
   have HBE:=Lib.hid hbel
   have HE1:=Lib.hid (HS.out.mono hbel)
   clear hblk hol hval hdo hbel
   by_cases hiL:i < n - k / 64
   ·have hstep:=right_step (l.drop (k / 64)) ol i (k % 64) (by have:=HO.out;omega) (by omega) (HD.out.drop _) HV.out
    rw[show (l.drop (k / 64))[i]?.getD 0=l[i + k / 64]?.getD 0 from by rw[List.getElem?_drop,Nat.add_comm],show (l.drop (k / 64))[i + 1]?.getD 0=l[i + k / 64 + 1]?.getD 0 from by rw[List.getElem?_drop];congr 2;omega] at hstep
    obtain⟨b1,o1,rfl,hca⟩:=HE1.out.at (i:=i + k / 64) (by omega)
    have hc1:=HB.out.cell (j:=i) (by have:=HO.out;omega)
    have hf1:=HB.out.free i
    have hmt:(k:Int).tmod 64=(k:Int) % 64:=Int.tmod_eq_emod_of_nonneg (by omega)
    have hm0:0≤(k:Int) % 64:=by omega
    have hm1:((k:Int) % 64).toNat=k % 64:=by omega
    have hm2:min (k % 64) 64=k % 64:=by omega
    have hw1:IntKind.i64.wrap ((k:Int) / 64)=(k:Int) / 64:=jo _ (by omega) (by omega)
    have hw2:IntKind.i64.wrap ((i:Int) + (k:Int) / 64)=(i:Int) + (k:Int) / 64:=jo _ (by omega) (by omega)
    have hw3:((i:Int) + (k:Int) / 64).toNat=i + k / 64:=by omega
    have hm3:(64 - (k:Int) % 64).toNat=64 - k % 64:=by omega
    have hm4:min (64 - k % 64) 64=64 - k % 64:=by omega
    have hm5:0≤64 - (k:Int) % 64:=by omega
    have d1:=HD.out.get (by omega) (i + k / 64)
    have hshr:=xf (l[i + k / 64]?.getD 0) (k % 64)
    have hshl:=ts (l[i + k / 64 + 1]?.getD 0) (64 - k % 64)
    have hlt:=Nat.mod_lt (l[i + k / 64 + 1]?.getD 0 * 2 ^ (64 - k % 64)) (show 0 < 18446744073709551616 by omega)
    have hy:l[i + k / 64]?.getD 0 / 2 ^ (k % 64) < 18446744073709551616:=Nat.lt_of_le_of_lt (Nat.div_le_self _ _) d1
    by_cases hnx:i + k / 64 + 1 < n
    ·have hbn:¬ ((n:Int)≤(i:Int) + (k:Int) / 64 + 1):=by omega
     obtain⟨b2,o2,e2,hcb⟩:=HE1.out.at hnx
     cases e2
     generalize l[i + k / 64 + 1]?.getD 0 * 2 ^ (64 - k % 64) % 18446744073709551616=z at *
     generalize l[i + k / 64]?.getD 0 / 2 ^ (k % 64)=y at *
     have hor:=u64_or_nat _ _ hy hlt
     have hset1:=(HB.out.set i y).set i (y ||| z)
     generalize hu:y ||| z=u at *
     rw[List.set_set] at hset1
     have HST:=Lib.hid hstep
     have HS2:=Lib.hid hset1
     have HU:=Lib.hid hu
     clear hstep hset1 hu
     have hne:b1≠w.heap.size:=by have:=HS.out.lt (by omega);omega
     have hcx:(wr.setCell ⟨w.heap.size,i,none⟩ (.int .u64 (y:Int))).cell? ⟨b1,o1 + (i + k / 64 + 1),none⟩=some (.int .u64 ((l[i + k / 64 + 1]?.getD 0:Nat):Int)):=by
      rw[World.cell?_setCell_other _ _ _ _ (by intro e';simp only[Addr.mk.injEq] at e';omega)];exact hcb
     have hcy:(wr.setCell ⟨w.heap.size,i,none⟩ (.int .u64 (y:Int))).cell? ⟨w.heap.size,i,none⟩=some (.int .u64 (y:Int)):=World.cell?_setCell_same _ _ _ hc1
     have hfy:(wr.setCell ⟨w.heap.size,i,none⟩ (.int .u64 (y:Int))).frozen? ⟨w.heap.size,i,none⟩=false:=by
      have:=(HB.out.set i y).free i;exact this
     have hbe:=HBE.out.setCell (p:=⟨w.heap.size,i,none⟩) (Nat.le_refl _) (.int .u64 (y:Int))
     have HBE2:=Lib.hid hbe
     clear hbe
     go_wp2
     generalize (wr.setCell ⟨w.heap.size,i,none⟩ (.int .u64 (y:Int)))=w2 at *
     have hb3:(i:Int) + (k:Int) / 64 + 1 < (n:Int):=by omega
     have hb5:0≤(i:Int) + (k:Int) / 64 + 1:=by omega
     have hw4:IntKind.i64.wrap ((i:Int) + (k:Int) / 64 + 1)=(i:Int) + (k:Int) / 64 + 1:=jo _ (by omega) (by omega)
     have hw5:((i:Int) + (k:Int) / 64 + 1).toNat=i + k / 64 + 1:=by omega
     have hw6:IntKind.i64.wrap (64 - (k:Int) % 64)=64 - (k:Int) % 64:=jo _ (by omega) (by omega)
     have hb6:(i:Int) < ((n - k / 64:Nat):Int):=by omega
     go_still_tail 18,(by kernel_rfl)
     change wpList _ _ _ _ _ (World.drew _)
     go_wp2
     go_roundw
     case rel=>
      rw[HU.out] at *
      exact⟨i + 1,_,by omega,by go_num,HS2.out,by rw[List.length_set];exact HO.out,HDO.out.set _ _ HST.out.1,by have:=HST.out.2;rw[List.getElem?_drop,List.getElem?_drop] at *;rw[show k / 64 + (i + 1)=i + k / 64 + 1 from by omega];exact this,(HBE2.out.drew).setCell (Nat.le_refl _) _⟩
     all_goals first|(simp[intOf];done)|(simp[intOf];omega)
    ·have hbn:(n:Int)≤(i:Int) + (k:Int) / 64 + 1:=by omega
     have hz:l[i + k / 64 + 1]?.getD 0=0:=by rw[List.getElem?_eq_none (by have:=HS.out.len;omega)];rfl
     rw[hz,Nat.zero_mul,Nat.zero_mod,Nat.or_zero] at hstep
     have hset1:=HB.out.set i (l[i + k / 64]?.getD 0 / 2 ^ (k % 64))
     generalize l[i + k / 64]?.getD 0 / 2 ^ (k % 64)=y at *
     have HST:=Lib.hid hstep
     have HS2:=Lib.hid hset1
     have HZ:=Lib.hid hz
     clear hstep hset1 hz
     go_wp2
     go_roundw
     case rel=>
      exact⟨i + 1,_,by omega,by go_num,HS2.out,by rw[List.length_set];exact HO.out,HDO.out.set _ _ HST.out.1,by have:=HST.out.2;rw[List.getElem?_drop,List.getElem?_drop] at *;rw[show k / 64 + (i + 1)=i + k / 64 + 1 from by omega,HZ.out];exact this,HBE.out.setCell (Nat.le_refl _) _⟩
     all_goals first|(simp[intOf];done)|(simp[intOf];omega)
   ·have hi':i=n - k / 64:=by omega
    go_wp2_with fail
    refine (gw _ _ _ ol _ (by have:=HB.out.sl (by have:=HO.out;omega);rw[HO.out] at this;exact this) HDO.out).mono ?_
    rintro e w' ⟨j,hj,hcj,hvj,rfl,rfl⟩
    go_wp2
    go_ret
    refine⟨_,rfl,⟨_,_,_,_,rfl,(by have:=HB.out.sl (by have:=HO.out;omega);rw[HO.out] at this;exact this.take j hj),hcj,?_⟩,HBE.out⟩
    have hv:=HV.out
    have hll:(l.drop (k / 64)).length=n - k / 64:=by rw[List.length_drop,HS.out.len]
    rw[hi',←hll] at hv
    rw[hvj,right_end _ _ _ (by rw[HO.out,hll]) hv,val_drop_div HD.out,Nat.div_div_eq_div_mul,Nat.mul_comm,pow_split]
end Go.Proofs.YtidmjdmmpajooaaGreat
namespace Go.Proofs.YtidmjdmmpajooaaGreat
open Go.RowKit Dg
theorem kq (x:Int) (n:Nat) (hx:x=(n:Int)) (h:n < 18446744073709551616):IntKind.u64.wrap x=(n:Int):=by
 subst hx
 show (n:Int) % 18446744073709551616=_
 omega
theorem mg (a b:Nat) (h:a * b < 18446744073709551616):IntKind.u64.wrap ((a:Int) * (b:Int))=((a * b:Nat):Int):=kq _ _ (by simp) h
theorem xt (a b:Nat) (h:a < 18446744073709551616):IntKind.u64.wrap ((a:Int) / (b:Int))=((a / b:Nat):Int):=kq _ _ (by simp) (Nat.lt_of_le_of_lt (Nat.div_le_self _ _) h)
theorem wrap_rem (U u Q Y r:Nat) (h:Y * Q + r=U * 4294967296 + u) (hr:r < 18446744073709551616):
  IntKind.u64.wrap (IntKind.u64.wrap (IntKind.u64.wrap ((U:Int) * 4294967296) + (u:Int)) - IntKind.u64.wrap ((Q:Int) * (Y:Int)))=(r:Int):=by
 show (((((U:Int) * 4294967296) % 18446744073709551616 + (u:Int)) % 18446744073709551616) - ((Q:Int) * (Y:Int)) % 18446744073709551616) % 18446744073709551616=_
 have h':(Q:Int) * (Y:Int)=((Y * Q:Nat):Int):=by rw[Nat.mul_comm];simp
 rw[h']
 generalize Y * Q=p at *
 omega
theorem halves (x:Nat) (h:x < 18446744073709551616):∃a b:Nat,(x:Int) / 4294967296=(a:Int)∧bits .and .u64 (x:Int) 4294967295=(b:Int)∧x=a * 4294967296 + b∧b < 4294967296:=by
 refine⟨x / 4294967296,x % 4294967296,by simp,?_,by omega,Nat.mod_lt _ (by omega)⟩
 have:=u64_and_nat x 4294967295 h (by omega)
 rw[show ((4294967295:Nat):Int)=4294967295 from rfl] at this
 rw[this,show (4294967295:Nat)=2 ^ 32 - 1 from rfl,Nat.and_two_pow_sub_one_eq_mod]
theorem bitLen_bl:∀(k x:Nat),k≤64→x < 2 ^ k→Lib.bitLen x=bl x
 | 0,x,_,h=>by
  have:x=0:=by simpa using h
  subst this;rfl
 | k + 1,x,hk,h=>by
  by_cases h0:x=0
  ·subst h0;rfl
  have h64:2 ^ (k + 1)≤2 ^ 64:=Nat.pow_le_pow_right (by omega) hk
  rw[Lib.bitLen_half x h0 (by omega),bl_half (by omega),bitLen_bl k (x / 2) (by omega) (by rw[Nat.pow_succ] at h;omega)]
  omega
theorem shift_of {y:Nat} (h0:0 < y) (h:y < 18446744073709551616):∃s:Nat,s≤63∧(64 - (Lib.bitLen y:Int))=(s:Int)∧9223372036854775808≤y * 2 ^ s∧y * 2 ^ s < 18446744073709551616:=by
 have h1:=jy (show y < 2 ^ 64 from h)
 have h2:=bl_pos h0
 have h3:=jg y
 have h4:=iw h0
 refine⟨64 - bl y,by omega,by rw[bitLen_bl 64 y (by omega) h];omega,?_,?_⟩
 ·have:2 ^ bl y * 2 ^ (64 - bl y)≤2 * y * 2 ^ (64 - bl y):=Nat.mul_le_mul_right _ h4
  rw[←Nat.pow_add,show bl y + (64 - bl y)=64 from by omega,show (2:Nat) ^ 64=18446744073709551616 from rfl,Nat.mul_assoc] at this
  omega
 have:y * 2 ^ (64 - bl y) < 2 ^ bl y * 2 ^ (64 - bl y):=Nat.mul_lt_mul_of_pos_right h3 (Nat.pow_pos (by omega))
 rw[←Nat.pow_add,show bl y + (64 - bl y)=64 from by omega,show (2:Nat) ^ 64=18446744073709551616 from rfl] at this
 exact this
theorem div64_norm {hi lo y s:Nat} (hh:hi < y) (hl:lo < 18446744073709551616) (hs:s≤63):
  (hi * 2 ^ s ||| lo / 2 ^ (64 - s)) * 18446744073709551616 + lo * 2 ^ s % 18446744073709551616=(hi * 18446744073709551616 + lo) * 2 ^ s∧(hi * 2 ^ s ||| lo / 2 ^ (64 - s)) < y * 2 ^ s:=by
 have e:=or_add s (hi * 2 ^ s) (lo / 2 ^ (64 - s)) (Nat.mul_mod_left _ _) (by rw[shr_eq s lo (by omega)];exact shr_lt s lo hl)
 rw[e,shr_eq s lo (by omega)]
 have h1:=Nat.div_add_mod (lo * 2 ^ s) 18446744073709551616
 have h2:=shr_lt s lo hl
 have h3:(hi + 1) * 2 ^ s≤y * 2 ^ s:=Nat.mul_le_mul_right _ hh
 generalize lo * 2 ^ s / 18446744073709551616=a at *
 generalize lo * 2 ^ s % 18446744073709551616=b at *
 generalize 2 ^ s=p at *
 constructor
 ·rw[Nat.add_mul (hi * 18446744073709551616),←h1]
  grind
 rw[Nat.add_mul] at h3
 omega
theorem div64_sum {R A C U V D u1 u0 r1 r0:Nat} (hT:U * (R * R) + V=D) (hV:V=u1 * R + u0)
  (h1:A + r1=U * R + u1) (h0:C + r0=r1 * R + u0):A * R + C + r0=D:=by
 have e2:(A + r1) * R=(U * R + u1) * R:=by rw[h1]
 rw[Nat.add_mul,Nat.add_mul,Nat.mul_assoc U] at e2
 omega
theorem div64_end {U V Y T p y u1 u0 q1 r1 q0 r0:Nat} (hp:0 < p) (hT:U * 18446744073709551616 + V=T * p) (hY:Y=y * p) (hV:V=u1 * 4294967296 + u0)
  (h1:q1 * Y + r1=U * 4294967296 + u1) (h0:q0 * Y + r0=r1 * 4294967296 + u0) (hr:r0 < Y):
  (q1 * 4294967296 + q0) * y + r0 / p=T∧r0 / p < y:=by
 have e:(q1 * 4294967296 + q0) * Y + r0=T * p:=by
  have e1:q1 * 4294967296 * Y=(q1 * Y) * 4294967296:=by rw[Nat.mul_right_comm]
  rw[Nat.add_mul,e1]
  exact div64_sum (R:=4294967296) (by rw[show (4294967296 * 4294967296:Nat)=18446744073709551616 from rfl];exact hT) hV h1 h0
 subst hY
 have hm:r0 % p=0:=by
  have h5:(q1 * 4294967296 + q0) * y * p + r0=T * p:=by rw[Nat.mul_assoc];exact e
  generalize (q1 * 4294967296 + q0) * y=z at *
  have h6:(z * p + r0) % p=0:=by rw[h5,Nat.mul_mod_left]
  rwa [Nat.mul_comm z p,Nat.mul_add_mod] at h6
 have hd:=Nat.div_add_mod r0 p
 rw[hm,Nat.add_zero] at hd
 generalize r0 / p=r at *
 subst hd
 constructor
 ·have:((q1 * 4294967296 + q0) * y + r) * p=T * p:=by rw[←e];grind
  exact Nat.eq_of_mul_eq_mul_right hp this
 rw[Nat.mul_comm] at hr
 exact Nat.lt_of_mul_lt_mul_right hr
theorem div64_small (lo y:Nat) (w:World) (h0:0 < y) (hy:y < 18446744073709551616) (hl:lo < 18446744073709551616):
  Calls Tryz.prog 102 #[.int .u64 0,.int .u64 lo,.int .u64 y] w fun e w'=>∃q r:Nat,e=.returned (.tuple #[.int .u64 q,.int .u64 r])∧(∃n,w'=w.drewN n)∧q * y + r=lo∧r < y:=by
 have hy0:¬ (y:Int)=0:=by omega
 have hy1:((y:Int) == 0)=false:=by rw[beq_eq_false_iff_ne];omega
 have hlt:lo / y < 18446744073709551616:=Nat.lt_of_le_of_lt (Nat.div_le_self _ _) hl
 have hd1:((lo:Int) / (y:Int))=((lo / y:Nat):Int):=by simp
 have HD1:=Lib.hid hd1
 clear hd1
 go_enter Tryz.func102,Tryz.ntmps102
 go_wp2
 go_quiet (fail)
 go_wp2
 go_ret2
 refine⟨lo / y,lo % y,?_,⟨_,rfl⟩,by rw[Nat.mul_comm];exact Nat.div_add_mod _ _,Nat.mod_lt _ h0⟩
 rw[HD1.out,kq _ (lo / y) rfl hlt]
 simp
theorem div64_long (hi lo y:Nat) (w:World) (h0:0 < hi) (hh:hi < y) (hy:y < 18446744073709551616) (hl:lo < 18446744073709551616):
  Calls Tryz.prog 102 #[.int .u64 hi,.int .u64 lo,.int .u64 y] w fun e w'=>∃q r:Nat,e=.returned (.tuple #[.int .u64 q,.int .u64 r])∧(∃n,w'=w.drewN n)∧q * y + r=hi * 18446744073709551616 + lo∧r < y:=by
 obtain⟨s,hs,hbl,hY0,hY1⟩:=shift_of (y:=y) (by omega) hy
 obtain⟨hnorm,hU⟩:=div64_norm hh hl hs
 have HBL:=Lib.hid hbl
 clear hbl
 have hy1:((y:Int) == 0)=false:=by rw[beq_eq_false_iff_ne];omega
 have hyh:(hi:Int) < (y:Int):=by omega
 have hh1:((hi:Int) == 0)=false:=by rw[beq_eq_false_iff_ne];omega
 have hshl:=ts y s
 have hshl2:=ts hi s
 have hshl3:=ts lo s
 rw[Nat.mod_eq_of_lt hY1] at hshl
 have hU1:hi * 2 ^ s < 18446744073709551616:=Nat.lt_of_lt_of_le (Nat.mul_lt_mul_of_pos_right hh (Nat.pow_pos (by omega))) (by omega)
 rw[Nat.mod_eq_of_lt hU1] at hshl2
 have hshr:=xf lo (64 - s)
 have hv:=Nat.mod_lt (lo * 2 ^ s) (show 0 < 18446744073709551616 by omega)
 have hlo2:lo / 2 ^ (64 - s) < 18446744073709551616:=Nat.lt_of_le_of_lt (Nat.div_le_self _ _) hl
 have hor:=u64_or_nat _ _ hU1 hlo2
 generalize lo * 2 ^ s % 18446744073709551616=V at *
 generalize hi * 2 ^ s ||| lo / 2 ^ (64 - s)=U at *
 generalize lo / 2 ^ (64 - s)=lo2 at *
 generalize hi * 2 ^ s=hi2 at *
 generalize hYe:y * 2 ^ s=Y at *
 have HY:=Lib.hid hYe
 have HN:=Lib.hid hnorm
 clear hYe hnorm
 have hm1:min s 64=s:=by omega
 have hm2:min (64 - s) 64=64 - s:=by omega
 have hm3:(64 - (s:Int)).toNat=64 - s:=by omega
 have hm4:0≤64 - (s:Int):=by omega
 obtain⟨a,b,ha,hb,hYab,hb0⟩:=halves Y hY1
 obtain⟨u1,u0,hu1e,hu0e,hV10,hu0⟩:=halves V hv
 have ha0:2147483648≤a∧a < 4294967296:=by omega
 have hu1:u1 < 4294967296:=by omega
 obtain⟨q,hq⟩:∃q,q=U / a:=⟨_,rfl⟩
 have hqw:IntKind.u64.wrap ((U:Int) / (a:Int))=(q:Int):=by
  rw[hq];exact xt _ _ (by omega)
 have hg1:=ze U a b u1 (by omega) hu1
 obtain⟨qa,hqa,hqaw⟩:∃qa:Nat,q * a=qa∧IntKind.u64.wrap ((q:Int) * (a:Int))=(qa:Int):=by
  have:=Nat.div_mul_le_self U a
  rw[←hq] at this
  exact⟨_,rfl,by rw[mg _ _ (by omega)]⟩
 have hr0:=Nat.mod_lt U (show 0 < a by omega)
 have hr1:qa + U % a=U:=by rw[←hqa,hq,Nat.mul_comm];exact Nat.div_add_mod U a
 obtain⟨r,hr⟩:∃r,r=U % a:=⟨_,rfl⟩
 rw[←hr] at hr0 hr1
 have hrw:IntKind.u64.wrap ((U:Int) - (qa:Int))=(r:Int):=by
  show ((U:Int) - (qa:Int)) % 18446744073709551616=_
  omega
 obtain⟨Q1,hQ1⟩:∃Q1,Q1=(U * 4294967296 + u1) / (a * 4294967296 + b):=⟨_,rfl⟩
 have hQlt:Q1 < 4294967296:=by rw[hQ1];exact guess_le (by omega) hu1
 rw[←hQ1,←hq] at hg1
 have HQ1:=Lib.hid hQ1.symm
 have HU1:=Lib.hid (show U < a * 4294967296 + b by omega)
 have hqle:q≤4294967297:=by
  rw[hq]
  apply Nat.le_of_lt_succ
  rw[Nat.div_lt_iff_lt_mul (by omega)]
  omega
 have H1:=Lib.hid (And.intro (show q * a + r=U by omega) (And.intro hg1 (And.intro hr0 hqle)))
 have hrem1:=Nat.div_add_mod (U * 4294967296 + u1) (a * 4294967296 + b)
 have hrem2:=Nat.mod_lt (U * 4294967296 + u1) (show 0 < a * 4294967296 + b by omega)
 rw[←hQ1,←hYab] at hrem1
 rw[←hYab] at hrem2
 obtain⟨r1,hr1e⟩:∃r1,r1=(U * 4294967296 + u1) % (a * 4294967296 + b):=⟨_,rfl⟩
 rw[←hYab] at hr1e
 rw[←hr1e] at hrem1 hrem2
 have hw1:IntKind.u64.wrap (IntKind.u64.wrap (IntKind.u64.wrap ((U:Int) * 4294967296) + (u1:Int)) - IntKind.u64.wrap ((Q1:Int) * (Y:Int)))=(r1:Int):=wrap_rem _ _ _ _ _ hrem1 (by omega)
 obtain⟨q',hq'⟩:∃q,q=r1 / a:=⟨_,rfl⟩
 have hqw':IntKind.u64.wrap ((r1:Int) / (a:Int))=(q':Int):=by
  rw[hq'];exact xt _ _ (by omega)
 have hg0:=ze r1 a b u0 (by omega) hu0
 obtain⟨qa',hqa',hqaw'⟩:∃qa:Nat,q' * a=qa∧IntKind.u64.wrap ((q':Int) * (a:Int))=(qa:Int):=by
  have:=Nat.div_mul_le_self r1 a
  rw[←hq'] at this
  exact⟨_,rfl,by rw[mg _ _ (by omega)]⟩
 have hr0':=Nat.mod_lt r1 (show 0 < a by omega)
 have hr1':qa' + r1 % a=r1:=by rw[←hqa',hq',Nat.mul_comm];exact Nat.div_add_mod r1 a
 obtain⟨r',hr'⟩:∃r,r=r1 % a:=⟨_,rfl⟩
 rw[←hr'] at hr0' hr1'
 have hrw':IntKind.u64.wrap ((r1:Int) - (qa':Int))=(r':Int):=by
  show ((r1:Int) - (qa':Int)) % 18446744073709551616=_
  omega
 obtain⟨Q0,hQ0⟩:∃Q0,Q0=(r1 * 4294967296 + u0) / (a * 4294967296 + b):=⟨_,rfl⟩
 have hQlt0:Q0 < 4294967296:=by rw[hQ0];exact guess_le (by omega) hu0
 rw[←hQ0,←hq'] at hg0
 have HQ0:=Lib.hid hQ0.symm
 have HU0:=Lib.hid (show r1 < a * 4294967296 + b by omega)
 have hqle':q'≤4294967297:=by
  rw[hq']
  apply Nat.le_of_lt_succ
  rw[Nat.div_lt_iff_lt_mul (by omega)]
  omega
 have H0:=Lib.hid (And.intro (show q' * a + r'=r1 by omega) (And.intro hg0 (And.intro hr0' hqle')))
 have hrem3:=Nat.div_add_mod (r1 * 4294967296 + u0) (a * 4294967296 + b)
 have hrem4:=Nat.mod_lt (r1 * 4294967296 + u0) (show 0 < a * 4294967296 + b by omega)
 rw[←hQ0,←hYab] at hrem3
 rw[←hYab] at hrem4
 obtain⟨r2,hr2e⟩:∃r2,r2=(r1 * 4294967296 + u0) % (a * 4294967296 + b):=⟨_,rfl⟩
 rw[←hYab] at hr2e
 rw[←hr2e] at hrem3 hrem4
 have hw0:IntKind.u64.wrap (IntKind.u64.wrap (IntKind.u64.wrap ((r1:Int) * 4294967296) + (u0:Int)) - IntKind.u64.wrap ((Q0:Int) * (Y:Int)))=(r2:Int):=wrap_rem _ _ _ _ _ hrem3 (by omega)
 have hshr2:=xf r2 s
 have hend:=div64_end (Nat.pow_pos (n:=s) (show 0 < 2 by omega)) HN.out HY.out.symm hV10 (by rw[Nat.mul_comm];exact hrem1) (by rw[Nat.mul_comm];exact hrem3) hrem4
 generalize r2 / 2 ^ s=r3 at *
 have HEND:=Lib.hid hend
 have HW1:=Lib.hid hw1
 have HW0:=Lib.hid hw0
 clear hend hrem1 hrem3 hr1e hr2e hr' hq' hqa' hr hq hqa hQ1 hQ0 hYab hV10 hr1 hr1' hg0 hg1 hqle hqle' hr0 hr0' hw1 hw0
 go_enter Tryz.func102,Tryz.ntmps102
 go_wp2_with fail
 refine (Tryz.bits_LeadingZeros64 (y:Int) w (by omega) (by omega)).mono ?_
 rintro e w' ⟨rfl,rfl⟩
 rw[Int.toNat_natCast,HBL.out]
 go_upto_block 0 with fail
 go_cut [15,16] from 67 to 85 (fun qv _ wx=>qv=.int .u64 ((Q1:Nat):Int)∧w'=wx)
 case first=>
  go_wp2_with fail
  go_loopw [15,16] (fun qv rv wr=>∃q r:Nat,qv=.int .u64 q∧rv=.int .u64 r∧q * a + r=U∧Q1≤q∧r < 4294967296∧q≤4294967297∧wr=w') (fun qv _ _=>(intOf qv).toNat)
  case atStart=>exact⟨_,_,rfl,rfl,H1.out.1,H1.out.2.1,by have:=H1.out;omega,H1.out.2.2.2,rfl⟩
  case round=>
   obtain⟨q,r,rfl,rfl,hqr,hQ,hrR,hqR,rfl⟩:=hrel
   have hbig:=fun h=>guess_big hqr HU1.out hu1 h
   rw[HQ1.out] at hbig
   have hfit:=fun (q r:Nat) (hqr:q * a + r=U) (h:Q1≤q)=>jd4 (u:=u1) (b:=b) (by omega) hqr (by rw[HQ1.out];exact h)
   rw[HQ1.out] at hfit
   have hbrk:∀q' r':Nat,q' * a + r'=U→Q1≤q'→q'≤4294967296→4294967296≤r'→Q1=q':=by
    intro q' r' h1 h2 h3 h4
    refine hfit _ _ h1 h2 ?_
    have g1:q' * b≤4294967296 * 4294967295:=Nat.mul_le_mul h3 (by omega)
    have g2:4294967296 * 4294967296≤4294967296 * r':=Nat.mul_le_mul_left _ h4
    omega
   have hdown:0 < q→(q - 1) * a + (r + a)=U:=by
    intro h
    obtain⟨q,rfl⟩:∃j,q=j + 1:=⟨q - 1,by omega⟩
    rw[←hqr,Nat.add_sub_cancel,Nat.add_mul]
    omega
   have HBIG:=Lib.hid hbig
   have HFIT:=Lib.hid hfit
   have HBRK:=Lib.hid hbrk
   have HDOWN:=Lib.hid hdown
   have HQR:=Lib.hid hqr
   clear hbig hfit hbrk hdown hqr
   by_cases hq1:4294967296≤q
   ·have hlt:=HBIG.out (.inl hq1)
    have hq1':(4294967296:Int)≤(q:Int):=by omega
    by_cases hr1:4294967296≤r + a
    ·have hb:(4294967296:Int)≤(r:Int) + (a:Int):=by omega
     have hfin:=HBRK.out (q - 1) (r + a) (HDOWN.out (by omega)) (by omega) (by omega) hr1
     have HF:=Lib.hid hfin
     clear hfin
     go_wp2
     go_meet
     refine⟨by rw[HF.out];congr 1;omega,rfl⟩
    have hb:¬ (4294967296:Int)≤(r:Int) + (a:Int):=by omega
    go_wp2
    go_roundw
    case rel=>exact⟨q - 1,r + a,by congr 1;omega,by go_num,HDOWN.out (by omega),by omega,by omega,by omega,by first|rfl|trivial⟩
    all_goals first|(simp[intOf];done)|(simp[intOf];omega)
   have hqb:q * b < 4294967296 * 4294967296:=Nat.lt_of_le_of_lt (Nat.mul_le_mul (show q≤4294967295 by omega) (show b≤4294967295 by omega)) (by omega)
   have hwq:IntKind.u64.wrap ((q:Int) * (b:Int))=((q * b:Nat):Int):=mg _ _ hqb
   have hRr:4294967296 * r≤18446744069414584320:=Nat.le_trans (Nat.mul_le_mul_left 4294967296 (show r≤4294967295 by omega)) (by decide)
   have hwr:IntKind.u64.wrap (4294967296 * (r:Int))=((4294967296 * r:Nat):Int):=kq _ _ (by simp) (Nat.lt_of_le_of_lt hRr (by decide))
   have HB2:=Lib.hid (show 4294967296 * r + u1 < q * b→Q1 < q from fun h=>HBIG.out (.inr h))
   have HF2:=Lib.hid (show q * b≤4294967296 * r + u1→Q1=q from fun h=>HFIT.out q r HQR.out hQ h)
   rw[show (4294967296 * 4294967296:Nat)=18446744073709551616 from rfl] at hqb
   generalize q * b=qb at *
   generalize 4294967296 * r=Rr at *
   by_cases hq2:Rr + u1 < qb
   ·have hlt:=HB2.out hq2
    have hq1':¬ (4294967296:Int)≤(q:Int):=by omega
    have hq2':(Rr:Int) + (u1:Int) < (qb:Int):=by omega
    by_cases hr1:4294967296≤r + a
    ·have hb:(4294967296:Int)≤(r:Int) + (a:Int):=by omega
     have hfin:=HBRK.out (q - 1) (r + a) (HDOWN.out (by omega)) (by omega) (by omega) hr1
     have HF:=Lib.hid hfin
     clear hfin
     go_wp2
     go_meet
     refine⟨by rw[HF.out];congr 1;omega,rfl⟩
    have hb:¬ (4294967296:Int)≤(r:Int) + (a:Int):=by omega
    go_wp2
    go_roundw
    case rel=>exact⟨q - 1,r + a,by congr 1;omega,by go_num,HDOWN.out (by omega),by omega,by omega,by omega,by first|rfl|trivial⟩
    all_goals first|(simp[intOf];done)|(simp[intOf];omega)
   have hfin:=HF2.out (by omega)
   have HF:=Lib.hid hfin
   clear hfin
   have hq1':¬ (4294967296:Int)≤(q:Int):=by omega
   have hq2':¬ (Rr:Int) + (u1:Int) < (qb:Int):=by omega
   go_wp2
   go_meet
   exact⟨by rw[HF.out],rfl⟩
 case rest=>
  obtain⟨rfl,rfl⟩:=hcut
  have hw1:=HW1.out
  go_upto_block 2 with fail
  go_cut [18,16] from 102 to 120 (fun qv _ wx=>qv=.int .u64 ((Q0:Nat):Int)∧w'=wx)
  case first=>
   clear hw1
   go_wp2_with fail
   go_loopw [18,16] (fun qv rv wr=>∃q r:Nat,qv=.int .u64 q∧rv=.int .u64 r∧q * a + r=r1∧Q0≤q∧r < 4294967296∧q≤4294967297∧wr=w') (fun qv _ _=>(intOf qv).toNat)
   case atStart=>exact⟨_,_,rfl,rfl,H0.out.1,H0.out.2.1,by have:=H0.out;omega,H0.out.2.2.2,rfl⟩
   case round=>
    obtain⟨q,r,rfl,rfl,hqr,hQ,hrR,hqR,rfl⟩:=hrel
    have hbig:=fun h=>guess_big hqr HU0.out hu0 h
    rw[HQ0.out] at hbig
    have hfit:=fun (q r:Nat) (hqr:q * a + r=r1) (h:Q0≤q)=>jd4 (u:=u0) (b:=b) (by omega) hqr (by rw[HQ0.out];exact h)
    rw[HQ0.out] at hfit
    have hbrk:∀q' r':Nat,q' * a + r'=r1→Q0≤q'→q'≤4294967296→4294967296≤r'→Q0=q':=by
     intro q' r' h1 h2 h3 h4
     refine hfit _ _ h1 h2 ?_
     have g1:q' * b≤4294967296 * 4294967295:=Nat.mul_le_mul h3 (by omega)
     have g2:4294967296 * 4294967296≤4294967296 * r':=Nat.mul_le_mul_left _ h4
     omega
    have hdown:0 < q→(q - 1) * a + (r + a)=r1:=by
     intro h
     obtain⟨q,rfl⟩:∃j,q=j + 1:=⟨q - 1,by omega⟩
     rw[←hqr,Nat.add_sub_cancel,Nat.add_mul]
     omega
    have HBIG:=Lib.hid hbig
    have HFIT:=Lib.hid hfit
    have HBRK:=Lib.hid hbrk
    have HDOWN:=Lib.hid hdown
    have HQR:=Lib.hid hqr
    clear hbig hfit hbrk hdown hqr
    by_cases hq1:4294967296≤q
    ·have hlt:=HBIG.out (.inl hq1)
     have hq1':(4294967296:Int)≤(q:Int):=by omega
     by_cases hr1:4294967296≤r + a
     ·have hb:(4294967296:Int)≤(r:Int) + (a:Int):=by omega
      have hfin:=HBRK.out (q - 1) (r + a) (HDOWN.out (by omega)) (by omega) (by omega) hr1
      have HF:=Lib.hid hfin
      clear hfin
      go_wp2
      go_meet
      refine⟨by rw[HF.out];congr 1;omega,rfl⟩
     have hb:¬ (4294967296:Int)≤(r:Int) + (a:Int):=by omega
     go_wp2
     go_roundw
     case rel=>exact⟨q - 1,r + a,by congr 1;omega,by go_num,HDOWN.out (by omega),by omega,by omega,by omega,by first|rfl|trivial⟩
     all_goals first|(simp[intOf];done)|(simp[intOf];omega)
    have hqb:q * b < 4294967296 * 4294967296:=Nat.lt_of_le_of_lt (Nat.mul_le_mul (show q≤4294967295 by omega) (show b≤4294967295 by omega)) (by omega)
    have hwq:IntKind.u64.wrap ((q:Int) * (b:Int))=((q * b:Nat):Int):=mg _ _ hqb
    have hRr:4294967296 * r≤18446744069414584320:=Nat.le_trans (Nat.mul_le_mul_left 4294967296 (show r≤4294967295 by omega)) (by decide)
    have hwr:IntKind.u64.wrap (4294967296 * (r:Int))=((4294967296 * r:Nat):Int):=kq _ _ (by simp) (Nat.lt_of_le_of_lt hRr (by decide))
    have HB2:=Lib.hid (show 4294967296 * r + u0 < q * b→Q0 < q from fun h=>HBIG.out (.inr h))
    have HF2:=Lib.hid (show q * b≤4294967296 * r + u0→Q0=q from fun h=>HFIT.out q r HQR.out hQ h)
    rw[show (4294967296 * 4294967296:Nat)=18446744073709551616 from rfl] at hqb
    generalize q * b=qb at *
    generalize 4294967296 * r=Rr at *
    by_cases hq2:Rr + u0 < qb
    ·have hlt:=HB2.out hq2
     have hq1':¬ (4294967296:Int)≤(q:Int):=by omega
     have hq2':(Rr:Int) + (u0:Int) < (qb:Int):=by omega
     by_cases hr1:4294967296≤r + a
     ·have hb:(4294967296:Int)≤(r:Int) + (a:Int):=by omega
      have hfin:=HBRK.out (q - 1) (r + a) (HDOWN.out (by omega)) (by omega) (by omega) hr1
      have HF:=Lib.hid hfin
      clear hfin
      go_wp2
      go_meet
      refine⟨by rw[HF.out];congr 1;omega,rfl⟩
     have hb:¬ (4294967296:Int)≤(r:Int) + (a:Int):=by omega
     go_wp2
     go_roundw
     case rel=>exact⟨q - 1,r + a,by congr 1;omega,by go_num,HDOWN.out (by omega),by omega,by omega,by omega,by first|rfl|trivial⟩
     all_goals first|(simp[intOf];done)|(simp[intOf];omega)
    have hfin:=HF2.out (by omega)
    have HF:=Lib.hid hfin
    clear hfin
    have hq1':¬ (4294967296:Int)≤(q:Int):=by omega
    have hq2':¬ (Rr:Int) + (u0:Int) < (qb:Int):=by omega
    go_wp2
    go_meet
    exact⟨by rw[HF.out],rfl⟩
  case rest=>
   obtain⟨rfl,rfl⟩:=hcut
   have hw0:=HW0.out
   go_wp2
   go_ret2
   exact⟨Q1 * 4294967296 + Q0,r3,by simp,⟨0,rfl⟩,HEND.out⟩
theorem div64 (hi lo y:Nat) (w:World) (hh:hi < y) (hy:y < 18446744073709551616) (hl:lo < 18446744073709551616):
  Calls Tryz.prog 102 #[.int .u64 hi,.int .u64 lo,.int .u64 y] w fun e w'=>∃q r:Nat,e=.returned (.tuple #[.int .u64 q,.int .u64 r])∧(∃n,w'=w.drewN n)∧q * y + r=hi * 18446744073709551616 + lo∧r < y:=by
 by_cases h:hi=0
 ·subst h
  rw[Nat.zero_mul,Nat.zero_add]
  exact div64_small lo y w (by omega) hy hl
 exact div64_long hi lo y w (by omega) hh hy hl
end Go.Proofs.YtidmjdmmpajooaaGreat
