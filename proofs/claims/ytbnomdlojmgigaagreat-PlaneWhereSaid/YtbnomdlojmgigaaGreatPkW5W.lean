/-
  The contracts of the program's naturals, fifth part: bits.Div64.
-/
import Derived.Test.YtbnomdlojmgigaaGreatPkW4W
import Derived.Test.YtbnomdlojmgigaaGreatPkW2W
import Derived.Test.YtbnomdlojmgigaaGreatPkW0W
import Derived.Deep.CutBlock
import Derived.Deep.QuietTactic
import Derived.BigQuiet
set_option linter.unusedSimpArgs false
set_option linter.unusedVariables false
set_option maxRecDepth 100000
set_option maxHeartbeats 2000000
namespace Go.Proofs.YtbnomdlojmgigaaGreat
open Go.RowKit Dg
theorem kq (x:Int) (n:Nat) (hx:x=(n:Int)) (h:n < 18446744073709551616):IntKind.u64.wrap x=(n:Int):=by
 subst hx
 show (n:Int) % 18446744073709551616=_
 omega
theorem mg (a b:Nat) (h:a * b < 18446744073709551616):IntKind.u64.wrap ((a:Int) * (b:Int))=((a * b:Nat):Int):=kq _ _ (by simp) h
theorem xt (a b:Nat) (h:a < 18446744073709551616):IntKind.u64.wrap ((a:Int) / (b:Int))=((a / b:Nat):Int):=kq _ _ (by simp) (Nat.lt_of_le_of_lt (Nat.div_le_self _ _) h)
theorem wrap_rem (U u Q Y r:Nat) (h:Y * Q + r=U * 4294967296 + u) (hr:r < 18446744073709551616):
  IntKind.u64.wrap (IntKind.u64.wrap (IntKind.u64.wrap ((U:Int) * 4294967296) + (u:Int)) - IntKind.u64.wrap ((Q:Int) * (Y:Int)))=(r:Int):=by
 show (((((U:Int) * 4294967296) % 18446744073709551616 + (u:Int)) % 18446744073709551616) - ((Q:Int) * (Y:Int)) % 18446744073709551616) % 18446744073709551616=_
 have h':(Q:Int) * (Y:Int)=((Y * Q:Nat):Int):=by rw[Nat.mul_comm];simp
 rw[h']
 generalize Y * Q=p at *
 omega
theorem halves (x:Nat) (h:x < 18446744073709551616):∃a b:Nat,(x:Int) / 4294967296=(a:Int)∧bits .and .u64 (x:Int) 4294967295=(b:Int)∧x=a * 4294967296 + b∧b < 4294967296:=by
 refine⟨x / 4294967296,x % 4294967296,by simp,?_,by omega,Nat.mod_lt _ (by omega)⟩
 have:=u64_and_nat x 4294967295 h (by omega)
 rw[show ((4294967295:Nat):Int)=4294967295 from rfl] at this
 rw[this,show (4294967295:Nat)=2 ^ 32 - 1 from rfl,Nat.and_two_pow_sub_one_eq_mod]
theorem bitLen_bl:∀(k x:Nat),k≤64→x < 2 ^ k→Lib.bitLen x=bl x
 | 0,x,_,h=>by
  have:x=0:=by simpa using h
  subst this;rfl
 | k + 1,x,hk,h=>by
  by_cases h0:x=0
  ·subst h0;rfl
  have h64:2 ^ (k + 1)≤2 ^ 64:=Nat.pow_le_pow_right (by omega) hk
  rw[Lib.bitLen_half x h0 (by omega),bl_half (by omega),bitLen_bl k (x / 2) (by omega) (by rw[Nat.pow_succ] at h;omega)]
  omega
theorem shift_of {y:Nat} (h0:0 < y) (h:y < 18446744073709551616):∃s:Nat,s≤63∧(64 - (Lib.bitLen y:Int))=(s:Int)∧9223372036854775808≤y * 2 ^ s∧y * 2 ^ s < 18446744073709551616:=by
 have h1:=jy (show y < 2 ^ 64 from h)
 have h2:=bl_pos h0
 have h3:=jg y
 have h4:=iw h0
 refine⟨64 - bl y,by omega,by rw[bitLen_bl 64 y (by omega) h];omega,?_,?_⟩
 ·have:2 ^ bl y * 2 ^ (64 - bl y)≤2 * y * 2 ^ (64 - bl y):=Nat.mul_le_mul_right _ h4
  rw[←Nat.pow_add,show bl y + (64 - bl y)=64 from by omega,show (2:Nat) ^ 64=18446744073709551616 from rfl,Nat.mul_assoc] at this
  omega
 have:y * 2 ^ (64 - bl y) < 2 ^ bl y * 2 ^ (64 - bl y):=Nat.mul_lt_mul_of_pos_right h3 (Nat.pow_pos (by omega))
 rw[←Nat.pow_add,show bl y + (64 - bl y)=64 from by omega,show (2:Nat) ^ 64=18446744073709551616 from rfl] at this
 exact this
theorem div64_norm {hi lo y s:Nat} (hh:hi < y) (hl:lo < 18446744073709551616) (hs:s≤63):
  (hi * 2 ^ s ||| lo / 2 ^ (64 - s)) * 18446744073709551616 + lo * 2 ^ s % 18446744073709551616=(hi * 18446744073709551616 + lo) * 2 ^ s∧(hi * 2 ^ s ||| lo / 2 ^ (64 - s)) < y * 2 ^ s:=by
 have e:=or_add s (hi * 2 ^ s) (lo / 2 ^ (64 - s)) (Nat.mul_mod_left _ _) (by rw[shr_eq s lo (by omega)];exact shr_lt s lo hl)
 rw[e,shr_eq s lo (by omega)]
 have h1:=Nat.div_add_mod (lo * 2 ^ s) 18446744073709551616
 have h2:=shr_lt s lo hl
 have h3:(hi + 1) * 2 ^ s≤y * 2 ^ s:=Nat.mul_le_mul_right _ hh
 generalize lo * 2 ^ s / 18446744073709551616=a at *
 generalize lo * 2 ^ s % 18446744073709551616=b at *
 generalize 2 ^ s=p at *
 constructor
 ·rw[Nat.add_mul (hi * 18446744073709551616),←h1]
  grind
 rw[Nat.add_mul] at h3
 omega
theorem div64_sum {R A C U V D u1 u0 r1 r0:Nat} (hT:U * (R * R) + V=D) (hV:V=u1 * R + u0)
  (h1:A + r1=U * R + u1) (h0:C + r0=r1 * R + u0):A * R + C + r0=D:=by
 have e2:(A + r1) * R=(U * R + u1) * R:=by rw[h1]
 rw[Nat.add_mul,Nat.add_mul,Nat.mul_assoc U] at e2
 omega
theorem div64_end {U V Y T p y u1 u0 q1 r1 q0 r0:Nat} (hp:0 < p) (hT:U * 18446744073709551616 + V=T * p) (hY:Y=y * p) (hV:V=u1 * 4294967296 + u0)
  (h1:q1 * Y + r1=U * 4294967296 + u1) (h0:q0 * Y + r0=r1 * 4294967296 + u0) (hr:r0 < Y):
  (q1 * 4294967296 + q0) * y + r0 / p=T∧r0 / p < y:=by
 have e:(q1 * 4294967296 + q0) * Y + r0=T * p:=by
  have e1:q1 * 4294967296 * Y=(q1 * Y) * 4294967296:=by rw[Nat.mul_right_comm]
  rw[Nat.add_mul,e1]
  exact div64_sum (R:=4294967296) (by rw[show (4294967296 * 4294967296:Nat)=18446744073709551616 from rfl];exact hT) hV h1 h0
 subst hY
 have hm:r0 % p=0:=by
  have h5:(q1 * 4294967296 + q0) * y * p + r0=T * p:=by rw[Nat.mul_assoc];exact e
  generalize (q1 * 4294967296 + q0) * y=z at *
  have h6:(z * p + r0) % p=0:=by rw[h5,Nat.mul_mod_left]
  rwa [Nat.mul_comm z p,Nat.mul_add_mod] at h6
 have hd:=Nat.div_add_mod r0 p
 rw[hm,Nat.add_zero] at hd
 generalize r0 / p=r at *
 subst hd
 constructor
 ·have:((q1 * 4294967296 + q0) * y + r) * p=T * p:=by rw[←e];grind
  exact Nat.eq_of_mul_eq_mul_right hp this
 rw[Nat.mul_comm] at hr
 exact Nat.lt_of_mul_lt_mul_right hr
theorem div64_small (lo y:Nat) (w:World) (h0:0 < y) (hy:y < 18446744073709551616) (hl:lo < 18446744073709551616):
  Calls Tryz.prog 138 #[.int .u64 0,.int .u64 lo,.int .u64 y] w fun e w'=>∃q r:Nat,e=.returned (.tuple #[.int .u64 q,.int .u64 r])∧(∃n,w'=w.drewN n)∧q * y + r=lo∧r < y:=by
 have hy0:¬ (y:Int)=0:=by omega
 have hy1:((y:Int) == 0)=false:=by rw[beq_eq_false_iff_ne];omega
 have hlt:lo / y < 18446744073709551616:=Nat.lt_of_le_of_lt (Nat.div_le_self _ _) hl
 have hd1:((lo:Int) / (y:Int))=((lo / y:Nat):Int):=by simp
 have HD1:=Lib.hid hd1
 clear hd1
 go_enter Tryz.func138,Tryz.ntmps138
 go_wp2
 go_quiet (fail)
 go_wp2
 go_ret2
 refine⟨lo / y,lo % y,?_,⟨_,rfl⟩,by rw[Nat.mul_comm];exact Nat.div_add_mod _ _,Nat.mod_lt _ h0⟩
 rw[HD1.out,kq _ (lo / y) rfl hlt]
 simp
theorem div64_long (hi lo y:Nat) (w:World) (h0:0 < hi) (hh:hi < y) (hy:y < 18446744073709551616) (hl:lo < 18446744073709551616):
  Calls Tryz.prog 138 #[.int .u64 hi,.int .u64 lo,.int .u64 y] w fun e w'=>∃q r:Nat,e=.returned (.tuple #[.int .u64 q,.int .u64 r])∧(∃n,w'=w.drewN n)∧q * y + r=hi * 18446744073709551616 + lo∧r < y:=by
 obtain⟨s,hs,hbl,hY0,hY1⟩:=shift_of (y:=y) (by omega) hy
 obtain⟨hnorm,hU⟩:=div64_norm hh hl hs
 have HBL:=Lib.hid hbl
 clear hbl
 have hy1:((y:Int) == 0)=false:=by rw[beq_eq_false_iff_ne];omega
 have hyh:(hi:Int) < (y:Int):=by omega
 have hh1:((hi:Int) == 0)=false:=by rw[beq_eq_false_iff_ne];omega
 have hshl:=ts y s
 have hshl2:=ts hi s
 have hshl3:=ts lo s
 rw[Nat.mod_eq_of_lt hY1] at hshl
 have hU1:hi * 2 ^ s < 18446744073709551616:=Nat.lt_of_lt_of_le (Nat.mul_lt_mul_of_pos_right hh (Nat.pow_pos (by omega))) (by omega)
 rw[Nat.mod_eq_of_lt hU1] at hshl2
 have hshr:=xf lo (64 - s)
 have hv:=Nat.mod_lt (lo * 2 ^ s) (show 0 < 18446744073709551616 by omega)
 have hlo2:lo / 2 ^ (64 - s) < 18446744073709551616:=Nat.lt_of_le_of_lt (Nat.div_le_self _ _) hl
 have hor:=u64_or_nat _ _ hU1 hlo2
 generalize lo * 2 ^ s % 18446744073709551616=V at *
 generalize hi * 2 ^ s ||| lo / 2 ^ (64 - s)=U at *
 generalize lo / 2 ^ (64 - s)=lo2 at *
 generalize hi * 2 ^ s=hi2 at *
 generalize hYe:y * 2 ^ s=Y at *
 have HY:=Lib.hid hYe
 have HN:=Lib.hid hnorm
 clear hYe hnorm
 have hm1:min s 64=s:=by omega
 have hm2:min (64 - s) 64=64 - s:=by omega
 have hm3:(64 - (s:Int)).toNat=64 - s:=by omega
 have hm4:0≤64 - (s:Int):=by omega
 obtain⟨a,b,ha,hb,hYab,hb0⟩:=halves Y hY1
 obtain⟨u1,u0,hu1e,hu0e,hV10,hu0⟩:=halves V hv
 have ha0:2147483648≤a∧a < 4294967296:=by omega
 have hu1:u1 < 4294967296:=by omega
 obtain⟨q,hq⟩:∃q,q=U / a:=⟨_,rfl⟩
 have hqw:IntKind.u64.wrap ((U:Int) / (a:Int))=(q:Int):=by
  rw[hq];exact xt _ _ (by omega)
 have hg1:=ze U a b u1 (by omega) hu1
 obtain⟨qa,hqa,hqaw⟩:∃qa:Nat,q * a=qa∧IntKind.u64.wrap ((q:Int) * (a:Int))=(qa:Int):=by
  have:=Nat.div_mul_le_self U a
  rw[←hq] at this
  exact⟨_,rfl,by rw[mg _ _ (by omega)]⟩
 have hr0:=Nat.mod_lt U (show 0 < a by omega)
 have hr1:qa + U % a=U:=by rw[←hqa,hq,Nat.mul_comm];exact Nat.div_add_mod U a
 obtain⟨r,hr⟩:∃r,r=U % a:=⟨_,rfl⟩
 rw[←hr] at hr0 hr1
 have hrw:IntKind.u64.wrap ((U:Int) - (qa:Int))=(r:Int):=by
  show ((U:Int) - (qa:Int)) % 18446744073709551616=_
  omega
 obtain⟨Q1,hQ1⟩:∃Q1,Q1=(U * 4294967296 + u1) / (a * 4294967296 + b):=⟨_,rfl⟩
 have hQlt:Q1 < 4294967296:=by rw[hQ1];exact guess_le (by omega) hu1
 rw[←hQ1,←hq] at hg1
 have HQ1:=Lib.hid hQ1.symm
 have HU1:=Lib.hid (show U < a * 4294967296 + b by omega)
 have hqle:q≤4294967297:=by
  rw[hq]
  apply Nat.le_of_lt_succ
  rw[Nat.div_lt_iff_lt_mul (by omega)]
  omega
 have H1:=Lib.hid (And.intro (show q * a + r=U by omega) (And.intro hg1 (And.intro hr0 hqle)))
 have hrem1:=Nat.div_add_mod (U * 4294967296 + u1) (a * 4294967296 + b)
 have hrem2:=Nat.mod_lt (U * 4294967296 + u1) (show 0 < a * 4294967296 + b by omega)
 rw[←hQ1,←hYab] at hrem1
 rw[←hYab] at hrem2
 obtain⟨r1,hr1e⟩:∃r1,r1=(U * 4294967296 + u1) % (a * 4294967296 + b):=⟨_,rfl⟩
 rw[←hYab] at hr1e
 rw[←hr1e] at hrem1 hrem2
 have hw1:IntKind.u64.wrap (IntKind.u64.wrap (IntKind.u64.wrap ((U:Int) * 4294967296) + (u1:Int)) - IntKind.u64.wrap ((Q1:Int) * (Y:Int)))=(r1:Int):=wrap_rem _ _ _ _ _ hrem1 (by omega)
 obtain⟨q',hq'⟩:∃q,q=r1 / a:=⟨_,rfl⟩
 have hqw':IntKind.u64.wrap ((r1:Int) / (a:Int))=(q':Int):=by
  rw[hq'];exact xt _ _ (by omega)
 have hg0:=ze r1 a b u0 (by omega) hu0
 obtain⟨qa',hqa',hqaw'⟩:∃qa:Nat,q' * a=qa∧IntKind.u64.wrap ((q':Int) * (a:Int))=(qa:Int):=by
  have:=Nat.div_mul_le_self r1 a
  rw[←hq'] at this
  exact⟨_,rfl,by rw[mg _ _ (by omega)]⟩
 have hr0':=Nat.mod_lt r1 (show 0 < a by omega)
 have hr1':qa' + r1 % a=r1:=by rw[←hqa',hq',Nat.mul_comm];exact Nat.div_add_mod r1 a
 obtain⟨r',hr'⟩:∃r,r=r1 % a:=⟨_,rfl⟩
 rw[←hr'] at hr0' hr1'
 have hrw':IntKind.u64.wrap ((r1:Int) - (qa':Int))=(r':Int):=by
  show ((r1:Int) - (qa':Int)) % 18446744073709551616=_
  omega
 obtain⟨Q0,hQ0⟩:∃Q0,Q0=(r1 * 4294967296 + u0) / (a * 4294967296 + b):=⟨_,rfl⟩
 have hQlt0:Q0 < 4294967296:=by rw[hQ0];exact guess_le (by omega) hu0
 rw[←hQ0,←hq'] at hg0
 have HQ0:=Lib.hid hQ0.symm
 have HU0:=Lib.hid (show r1 < a * 4294967296 + b by omega)
 have hqle':q'≤4294967297:=by
  rw[hq']
  apply Nat.le_of_lt_succ
  rw[Nat.div_lt_iff_lt_mul (by omega)]
  omega
 have H0:=Lib.hid (And.intro (show q' * a + r'=r1 by omega) (And.intro hg0 (And.intro hr0' hqle')))
 have hrem3:=Nat.div_add_mod (r1 * 4294967296 + u0) (a * 4294967296 + b)
 have hrem4:=Nat.mod_lt (r1 * 4294967296 + u0) (show 0 < a * 4294967296 + b by omega)
 rw[←hQ0,←hYab] at hrem3
 rw[←hYab] at hrem4
 obtain⟨r2,hr2e⟩:∃r2,r2=(r1 * 4294967296 + u0) % (a * 4294967296 + b):=⟨_,rfl⟩
 rw[←hYab] at hr2e
 rw[←hr2e] at hrem3 hrem4
 have hw0:IntKind.u64.wrap (IntKind.u64.wrap (IntKind.u64.wrap ((r1:Int) * 4294967296) + (u0:Int)) - IntKind.u64.wrap ((Q0:Int) * (Y:Int)))=(r2:Int):=wrap_rem _ _ _ _ _ hrem3 (by omega)
 have hshr2:=xf r2 s
 have hend:=div64_end (Nat.pow_pos (n:=s) (show 0 < 2 by omega)) HN.out HY.out.symm hV10 (by rw[Nat.mul_comm];exact hrem1) (by rw[Nat.mul_comm];exact hrem3) hrem4
 generalize r2 / 2 ^ s=r3 at *
 have HEND:=Lib.hid hend
 have HW1:=Lib.hid hw1
 have HW0:=Lib.hid hw0
 clear hend hrem1 hrem3 hr1e hr2e hr' hq' hqa' hr hq hqa hQ1 hQ0 hYab hV10 hr1 hr1' hg0 hg1 hqle hqle' hr0 hr0' hw1 hw0
 go_enter Tryz.func138,Tryz.ntmps138
 go_wp2_with fail
 refine (Tryz.bits_LeadingZeros64 (y:Int) w (by omega) (by omega)).mono ?_
 rintro e w' ⟨rfl,rfl⟩
 rw[Int.toNat_natCast,HBL.out]
 go_upto_block 0 with fail
 go_cut [15,16] from 67 to 85 (fun qv _ wx=>qv=.int .u64 ((Q1:Nat):Int)∧w'=wx)
 case first=>
  go_wp2_with fail
  go_loopw [15,16] (fun qv rv wr=>∃q r:Nat,qv=.int .u64 q∧rv=.int .u64 r∧q * a + r=U∧Q1≤q∧r < 4294967296∧q≤4294967297∧wr=w') (fun qv _ _=>(intOf qv).toNat)
  case atStart=>exact⟨_,_,rfl,rfl,H1.out.1,H1.out.2.1,by have:=H1.out;omega,H1.out.2.2.2,rfl⟩
  case round=>
   obtain⟨q,r,rfl,rfl,hqr,hQ,hrR,hqR,rfl⟩:=hrel
   have hbig:=fun h=>guess_big hqr HU1.out hu1 h
   rw[HQ1.out] at hbig
   have hfit:=fun (q r:Nat) (hqr:q * a + r=U) (h:Q1≤q)=>jd4 (u:=u1) (b:=b) (by omega) hqr (by rw[HQ1.out];exact h)
   rw[HQ1.out] at hfit
   have hbrk:∀q' r':Nat,q' * a + r'=U→Q1≤q'→q'≤4294967296→4294967296≤r'→Q1=q':=by
    intro q' r' h1 h2 h3 h4
    refine hfit _ _ h1 h2 ?_
    have g1:q' * b≤4294967296 * 4294967295:=Nat.mul_le_mul h3 (by omega)
    have g2:4294967296 * 4294967296≤4294967296 * r':=Nat.mul_le_mul_left _ h4
    omega
   have hdown:0 < q→(q - 1) * a + (r + a)=U:=by
    intro h
    obtain⟨q,rfl⟩:∃j,q=j + 1:=⟨q - 1,by omega⟩
    rw[←hqr,Nat.add_sub_cancel,Nat.add_mul]
    omega
   have HBIG:=Lib.hid hbig
   have HFIT:=Lib.hid hfit
   have HBRK:=Lib.hid hbrk
   have HDOWN:=Lib.hid hdown
   have HQR:=Lib.hid hqr
   clear hbig hfit hbrk hdown hqr
   by_cases hq1:4294967296≤q
   ·have hlt:=HBIG.out (.inl hq1)
    have hq1':(4294967296:Int)≤(q:Int):=by omega
    by_cases hr1:4294967296≤r + a
    ·have hb:(4294967296:Int)≤(r:Int) + (a:Int):=by omega
     have hfin:=HBRK.out (q - 1) (r + a) (HDOWN.out (by omega)) (by omega) (by omega) hr1
     have HF:=Lib.hid hfin
     clear hfin
     go_wp2
     go_meet
     refine⟨by rw[HF.out];congr 1;omega,rfl⟩
    have hb:¬ (4294967296:Int)≤(r:Int) + (a:Int):=by omega
    go_wp2
    go_roundw
    case rel=>exact⟨q - 1,r + a,by congr 1;omega,by go_num,HDOWN.out (by omega),by omega,by omega,by omega,by first|rfl|trivial⟩
    all_goals first|(simp[intOf];done)|(simp[intOf];omega)
   have hqb:q * b < 4294967296 * 4294967296:=Nat.lt_of_le_of_lt (Nat.mul_le_mul (show q≤4294967295 by omega) (show b≤4294967295 by omega)) (by omega)
   have hwq:IntKind.u64.wrap ((q:Int) * (b:Int))=((q * b:Nat):Int):=mg _ _ hqb
   have hRr:4294967296 * r≤18446744069414584320:=Nat.le_trans (Nat.mul_le_mul_left 4294967296 (show r≤4294967295 by omega)) (by decide)
   have hwr:IntKind.u64.wrap (4294967296 * (r:Int))=((4294967296 * r:Nat):Int):=kq _ _ (by simp) (Nat.lt_of_le_of_lt hRr (by decide))
   have HB2:=Lib.hid (show 4294967296 * r + u1 < q * b→Q1 < q from fun h=>HBIG.out (.inr h))
   have HF2:=Lib.hid (show q * b≤4294967296 * r + u1→Q1=q from fun h=>HFIT.out q r HQR.out hQ h)
   rw[show (4294967296 * 4294967296:Nat)=18446744073709551616 from rfl] at hqb
   generalize q * b=qb at *
   generalize 4294967296 * r=Rr at *
   by_cases hq2:Rr + u1 < qb
   ·have hlt:=HB2.out hq2
    have hq1':¬ (4294967296:Int)≤(q:Int):=by omega
    have hq2':(Rr:Int) + (u1:Int) < (qb:Int):=by omega
    by_cases hr1:4294967296≤r + a
    ·have hb:(4294967296:Int)≤(r:Int) + (a:Int):=by omega
     have hfin:=HBRK.out (q - 1) (r + a) (HDOWN.out (by omega)) (by omega) (by omega) hr1
     have HF:=Lib.hid hfin
     clear hfin
     go_wp2
     go_meet
     refine⟨by rw[HF.out];congr 1;omega,rfl⟩
    have hb:¬ (4294967296:Int)≤(r:Int) + (a:Int):=by omega
    go_wp2
    go_roundw
    case rel=>exact⟨q - 1,r + a,by congr 1;omega,by go_num,HDOWN.out (by omega),by omega,by omega,by omega,by first|rfl|trivial⟩
    all_goals first|(simp[intOf];done)|(simp[intOf];omega)
   have hfin:=HF2.out (by omega)
   have HF:=Lib.hid hfin
   clear hfin
   have hq1':¬ (4294967296:Int)≤(q:Int):=by omega
   have hq2':¬ (Rr:Int) + (u1:Int) < (qb:Int):=by omega
   go_wp2
   go_meet
   exact⟨by rw[HF.out],rfl⟩
 case rest=>
  obtain⟨rfl,rfl⟩:=hcut
  have hw1:=HW1.out
  go_upto_block 2 with fail
  go_cut [18,16] from 102 to 120 (fun qv _ wx=>qv=.int .u64 ((Q0:Nat):Int)∧w'=wx)
  case first=>
   clear hw1
   go_wp2_with fail
   go_loopw [18,16] (fun qv rv wr=>∃q r:Nat,qv=.int .u64 q∧rv=.int .u64 r∧q * a + r=r1∧Q0≤q∧r < 4294967296∧q≤4294967297∧wr=w') (fun qv _ _=>(intOf qv).toNat)
   case atStart=>exact⟨_,_,rfl,rfl,H0.out.1,H0.out.2.1,by have:=H0.out;omega,H0.out.2.2.2,rfl⟩
   case round=>
    obtain⟨q,r,rfl,rfl,hqr,hQ,hrR,hqR,rfl⟩:=hrel
    have hbig:=fun h=>guess_big hqr HU0.out hu0 h
    rw[HQ0.out] at hbig
    have hfit:=fun (q r:Nat) (hqr:q * a + r=r1) (h:Q0≤q)=>jd4 (u:=u0) (b:=b) (by omega) hqr (by rw[HQ0.out];exact h)
    rw[HQ0.out] at hfit
    have hbrk:∀q' r':Nat,q' * a + r'=r1→Q0≤q'→q'≤4294967296→4294967296≤r'→Q0=q':=by
     intro q' r' h1 h2 h3 h4
     refine hfit _ _ h1 h2 ?_
     have g1:q' * b≤4294967296 * 4294967295:=Nat.mul_le_mul h3 (by omega)
     have g2:4294967296 * 4294967296≤4294967296 * r':=Nat.mul_le_mul_left _ h4
     omega
    have hdown:0 < q→(q - 1) * a + (r + a)=r1:=by
     intro h
     obtain⟨q,rfl⟩:∃j,q=j + 1:=⟨q - 1,by omega⟩
     rw[←hqr,Nat.add_sub_cancel,Nat.add_mul]
     omega
    have HBIG:=Lib.hid hbig
    have HFIT:=Lib.hid hfit
    have HBRK:=Lib.hid hbrk
    have HDOWN:=Lib.hid hdown
    have HQR:=Lib.hid hqr
    clear hbig hfit hbrk hdown hqr
    by_cases hq1:4294967296≤q
    ·have hlt:=HBIG.out (.inl hq1)
     have hq1':(4294967296:Int)≤(q:Int):=by omega
     by_cases hr1:4294967296≤r + a
     ·have hb:(4294967296:Int)≤(r:Int) + (a:Int):=by omega
      have hfin:=HBRK.out (q - 1) (r + a) (HDOWN.out (by omega)) (by omega) (by omega) hr1
      have HF:=Lib.hid hfin
      clear hfin
      go_wp2
      go_meet
      refine⟨by rw[HF.out];congr 1;omega,rfl⟩
     have hb:¬ (4294967296:Int)≤(r:Int) + (a:Int):=by omega
     go_wp2
     go_roundw
     case rel=>exact⟨q - 1,r + a,by congr 1;omega,by go_num,HDOWN.out (by omega),by omega,by omega,by omega,by first|rfl|trivial⟩
     all_goals first|(simp[intOf];done)|(simp[intOf];omega)
    have hqb:q * b < 4294967296 * 4294967296:=Nat.lt_of_le_of_lt (Nat.mul_le_mul (show q≤4294967295 by omega) (show b≤4294967295 by omega)) (by omega)
    have hwq:IntKind.u64.wrap ((q:Int) * (b:Int))=((q * b:Nat):Int):=mg _ _ hqb
    have hRr:4294967296 * r≤18446744069414584320:=Nat.le_trans (Nat.mul_le_mul_left 4294967296 (show r≤4294967295 by omega)) (by decide)
    have hwr:IntKind.u64.wrap (4294967296 * (r:Int))=((4294967296 * r:Nat):Int):=kq _ _ (by simp) (Nat.lt_of_le_of_lt hRr (by decide))
    have HB2:=Lib.hid (show 4294967296 * r + u0 < q * b→Q0 < q from fun h=>HBIG.out (.inr h))
    have HF2:=Lib.hid (show q * b≤4294967296 * r + u0→Q0=q from fun h=>HFIT.out q r HQR.out hQ h)
    rw[show (4294967296 * 4294967296:Nat)=18446744073709551616 from rfl] at hqb
    generalize q * b=qb at *
    generalize 4294967296 * r=Rr at *
    by_cases hq2:Rr + u0 < qb
    ·have hlt:=HB2.out hq2
     have hq1':¬ (4294967296:Int)≤(q:Int):=by omega
     have hq2':(Rr:Int) + (u0:Int) < (qb:Int):=by omega
     by_cases hr1:4294967296≤r + a
     ·have hb:(4294967296:Int)≤(r:Int) + (a:Int):=by omega
      have hfin:=HBRK.out (q - 1) (r + a) (HDOWN.out (by omega)) (by omega) (by omega) hr1
      have HF:=Lib.hid hfin
      clear hfin
      go_wp2
      go_meet
      refine⟨by rw[HF.out];congr 1;omega,rfl⟩
     have hb:¬ (4294967296:Int)≤(r:Int) + (a:Int):=by omega
     go_wp2
     go_roundw
     case rel=>exact⟨q - 1,r + a,by congr 1;omega,by go_num,HDOWN.out (by omega),by omega,by omega,by omega,by first|rfl|trivial⟩
     all_goals first|(simp[intOf];done)|(simp[intOf];omega)
    have hfin:=HF2.out (by omega)
    have HF:=Lib.hid hfin
    clear hfin
    have hq1':¬ (4294967296:Int)≤(q:Int):=by omega
    have hq2':¬ (Rr:Int) + (u0:Int) < (qb:Int):=by omega
    go_wp2
    go_meet
    exact⟨by rw[HF.out],rfl⟩
  case rest=>
   obtain⟨rfl,rfl⟩:=hcut
   have hw0:=HW0.out
   go_wp2
   go_ret2
   exact⟨Q1 * 4294967296 + Q0,r3,by simp,⟨0,rfl⟩,HEND.out⟩
theorem div64 (hi lo y:Nat) (w:World) (hh:hi < y) (hy:y < 18446744073709551616) (hl:lo < 18446744073709551616):
  Calls Tryz.prog 138 #[.int .u64 hi,.int .u64 lo,.int .u64 y] w fun e w'=>∃q r:Nat,e=.returned (.tuple #[.int .u64 q,.int .u64 r])∧(∃n,w'=w.drewN n)∧q * y + r=hi * 18446744073709551616 + lo∧r < y:=by
 by_cases h:hi=0
 ·subst h
  rw[Nat.zero_mul,Nat.zero_add]
  exact div64_small lo y w (by omega) hy hl
 exact div64_long hi lo y w (by omega) hh hy hl
end Go.Proofs.YtbnomdlojmgigaaGreat
namespace Go.Proofs.YtbnomdlojmgigaaGreat
open Go.RowKit Dg
theorem tc (ao:Option Addr) (n c:Nat) (l:List Nat) (d:Nat) (w:World) (hs:Sl .u64 w ao n c l) (hd:cj 18446744073709551616 l) (h0:0 < d) (h1:d < 18446744073709551616) (hn:n≤1099511627776):
  Calls Tryz.prog 107 #[.slice ao n c,.int .u64 d] w (RetNatD .u64 18446744073709551616 w (val 18446744073709551616 l / d) (val 18446744073709551616 l % d)):=by
 have HS:=Lib.hid hs;clear hs
 have HD:=Lib.hid hd;clear hd
 obtain⟨i0,hi,hz0,hz1,hz2⟩:=info_parts kh
 go_enter Tryz.func107,Tryz.ntmps107
 go_wp2_with (at_make;refine co _ rfl _ _ 33 rfl 108 i0 .u64 Tryz.underlying33 hi hz0 hz1 _ _ _ _ n n rfl rfl rfl rfl (Nat.le_refl _) ?c3 ?c4 ?_)
 case c3=>rw[hz2];omega
 case c4=>omega
 go_loopw [7,8] (fun rv iv wr=>∃(k rest:Nat) (ol:List Nat),k≤n∧iv=.int .i64 ((k:Int) - 1)∧rv=.int .u64 rest∧rest < d∧Blk .u64 108 wr w.heap.size ol∧ol.length=n∧cj 18446744073709551616 ol∧
   val 18446744073709551616 (l.drop k)=val 18446744073709551616 (ol.drop k) * d + rest∧Below w.heap.size w wr) (fun _ iv _=>(intOf iv + 1).toNat)
 case atStart=>exact⟨n,0,_,Nat.le_refl _,rfl,rfl,by omega,Blk.new .u64 _ w _,by simp,cj.zeros (by omega) _,by rw[List.drop_of_length_le (by rw[HS.out.len];omega),List.drop_of_length_le (by simp)];simp[val],(Below.refl _ _).alloc (Nat.le_refl _) _⟩
 case round=>
  obtain⟨k,rest,ol,hk,rfl,rfl,hrd,hblk,hol,hdo,hval,hbel⟩:=hrel
  have e1:=(HS.out).mono hbel
  have HB:=Lib.hid hblk
  have HO:=Lib.hid hol
  have HV:=Lib.hid hval
  have HDO:=Lib.hid hdo
  have HBE:=Lib.hid hbel
  have HE1:=Lib.hid e1
  clear hblk hol hval hdo hbel e1
  cases k with
  | zero=>
   rw[show ((0:Nat):Int) - 1= -1 from rfl]
   go_wp2_with fail
   refine (gw _ _ _ ol _ (by have:=HB.out.sl (by have:=HO.out;omega);rw[HO.out] at this;exact this) HDO.out).mono ?_
   rintro e w' ⟨j,hj,hcj,hvj,rfl,rfl⟩
   go_wp2
   go_ret2
   have hv:=HV.out
   rw[List.drop_zero,List.drop_zero] at hv
   have:=nf hv.symm hrd
   refine⟨_,by rw[←this.2];rfl,⟨_,_,_,_,rfl,(by have:=HB.out.sl (by have:=HO.out;omega);rw[HO.out] at this;exact this.take j hj),hcj,?_⟩,HBE.out⟩
   rw[hvj,←this.1]
  | succ k=>
   rw[show ((k + 1:Nat):Int) - 1=(k:Int) from by omega]
   have d1:=HD.out.get (by omega) k
   obtain⟨b1,o1,rfl,hc1⟩:=HE1.out.at (i:=k) (by omega)
   have x1:=xx hrd d1
   have hst:=div_step _ d _ _ _ _ (by rw[HS.out.len];omega) (by rw[HO.out];omega) HV.out
   have HX1:=Lib.hid x1
   have HST:=Lib.hid hst
   clear x1 hst
   go_wp2_with fail
   refine (div64 rest (l[k]?.getD 0) d _ hrd h1 d1).mono ?_
   rintro e w' ⟨q,r,rfl,⟨m,rfl⟩,hqr,hrlt⟩
   have hq:=nf hqr hrlt
   have HQ:=Lib.hid hq
   have HBL:=Lib.hid (HB.out.drewN m)
   clear hq hqr
   have hcell:=HBL.out.cell (j:=k) (by have:=HO.out;omega)
   have hfree:=HBL.out.free k
   go_wp2
   go_roundw
   case rel=>
    refine⟨k,r,ol.set k q,by omega,rfl,rfl,hrlt,HBL.out.set _ _,by rw[List.length_set];exact HO.out,HDO.out.set _ _ (by rw[HQ.out.1];exact HX1.out),?_,(it HBE.out m).setCell (Nat.le_refl _) _⟩
    rw[HQ.out.1,HQ.out.2]
    exact HST.out
   all_goals first|(simp[intOf];done)|(simp[intOf];omega)
end Go.Proofs.YtbnomdlojmgigaaGreat
namespace Go.Proofs.YtbnomdlojmgigaaGreat
open Go.RowKit Dg
theorem tq (ao:Option Addr) (n c:Nat) (l:List Nat) (w:World) (hs:Sl .u32 w ao n c l) (hd:cj 4294967296 l) (hn:n≤1099511627776):
  Calls Tryz.prog 150 #[.slice ao n c] w (si .u32 4294967296 w (val 4294967296 l / 2)):=by
 have HS:=Lib.hid hs;clear hs
 have HD:=Lib.hid hd;clear hd
 obtain⟨i0,hi,hz0,hz1,hz2⟩:=info_parts oq
 go_enter Tryz.func150,Tryz.ntmps150
 go_wp2_with (at_make;refine co _ rfl _ _ 51 rfl 150 i0 .u32 Tryz.underlying51 hi hz0 hz1 _ _ _ _ n n rfl rfl rfl rfl (Nat.le_refl _) ?c3 ?c4 ?_)
 case c3=>rw[hz2];omega
 case c4=>omega
 go_loopw [4] (fun iv wr=>∃(k:Nat) (ol:List Nat),k≤n∧iv=.int .i64 k∧Blk .u32 150 wr w.heap.size ol∧ol.length=n∧cj 4294967296 ol∧
   2 * val (2 * 2147483648) (ol.take k) + l[0]?.getD 0 % 2=val (2 * 2147483648) (l.take k) + l[k]?.getD 0 % 2 * (2 * 2147483648) ^ k∧Below w.heap.size w wr) (fun iv _=>n - (intOf iv).toNat)
 case atStart=>exact⟨0,_,by omega,rfl,Blk.new .u32 _ w _,by simp,cj.zeros (by omega) _,by simp[val],(Below.refl _ _).alloc (Nat.le_refl _) _⟩
 case round=>
  obtain⟨k,ol,hk,rfl,hblk,hol,hdo,hval,hbel⟩:=hrel
  have e1:=(HS.out).mono hbel
  have d1:=HD.out.get (by omega) k
  have d2:=HD.out.get (by omega) (k + 1)
  have HB:=Lib.hid hblk
  have HO:=Lib.hid hol
  have HV:=Lib.hid hval
  have HDO:=Lib.hid hdo
  have HBE:=Lib.hid hbel
  have HE1:=Lib.hid e1
  have z2:n≤k + 1→l[k + 1]?.getD 0=0:=fun h=>by rw[List.getElem?_eq_none (by have:=HS.out.len;omega)];rfl
  have Z2:=Lib.hid z2
  clear hblk hol hval hdo hbel e1 z2
  by_cases hkL:k < n
  ·have hcell:=HB.out.cell (j:=k) (by have:=HO.out;omega)
   have hfree:=HB.out.free k
   have fin:∀(wf:World) (x:Nat),x=l[k]?.getD 0 / 2 + l[k + 1]?.getD 0 % 2 * 2147483648→x < 4294967296→Blk .u32 150 wf w.heap.size (ol.set k x)→Below w.heap.size w wf→∃(k':Nat) (ol':List Nat),k'≤n∧Value.int .i64 ((k:Int) + 1)=.int .i64 k'∧
      Blk .u32 150 wf w.heap.size ol'∧ol'.length=n∧cj 4294967296 ol'∧
      2 * val (2 * 2147483648) (ol'.take k') + l[0]?.getD 0 % 2=val (2 * 2147483648) (l.take k') + l[k']?.getD 0 % 2 * (2 * 2147483648) ^ k'∧Below w.heap.size w wf:=by
    rintro wf x rfl hx hb hbe
    exact⟨k + 1,_,by omega,by go_num,hb,by rw[List.length_set];exact HO.out,HDO.out.set _ _ hx,half_step _ _ _ _ (by rw[HO.out];exact hkL) HV.out,hbe⟩
   have FIN:=Lib.hid fin
   clear fin
   obtain⟨b1,o1,rfl,hc⟩:=HE1.out.all (by omega)
   have hc1:=hc k hkL
   have hc2:k + 1 < n→wr.cell? ⟨b1,o1 + (k + 1),none⟩=some (.int .u32 ((l[k + 1]?.getD 0:Nat):Int)):=fun h=>hc (k + 1) h
   clear hc
   have hset:=HB.out.set k (l[k]?.getD 0 / 2)
   have HSET:=Lib.hid hset
   clear hset
   have hlt:b1 < w.heap.size:=HS.out.lt (by omega)
   by_cases h2:k + 1 < n
   ·have hc2':=hc2 h2
    clear hc2
    by_cases h3:l[k + 1]?.getD 0 % 2=1
    ·have h3':(((l[k + 1]?.getD 0:Nat):Int) % 2 == 1)=true:=by rw[beq_iff_eq];omega
     have H3:=Lib.hid h3
     clear h3
     go_wp2
     go_roundw
     case rel=>
      refine FIN.out _ (l[k]?.getD 0 / 2 + 2147483648) (by rw[H3.out]) (by omega) ?_ ((HBE.out.setCell (Nat.le_refl _) _).setCell (Nat.le_refl _) _)
      have:=HSET.out.set k (l[k]?.getD 0 / 2 + 2147483648)
      rw[List.set_set] at this
      simpa using this
     all_goals first|(simp[intOf];done)|(simp[intOf];omega)
    ·have h3':(((l[k + 1]?.getD 0:Nat):Int) % 2 == 1)=false:=by rw[beq_eq_false_iff_ne];omega
     have H3:=Lib.hid h3
     clear h3
     go_wp2
     go_roundw
     case rel=>
      refine FIN.out _ (l[k]?.getD 0 / 2) (by have:=H3.out;omega) (by omega) ?_ (HBE.out.setCell (Nat.le_refl _) _)
      simpa using HSET.out
     all_goals first|(simp[intOf];done)|(simp[intOf];omega)
   ·clear hc2
    have h2':n≤k + 1:=by omega
    go_wp2
    go_roundw
    case rel=>
     refine FIN.out _ (l[k]?.getD 0 / 2) (by have:=Z2.out h2';omega) (by omega) ?_ (HBE.out.setCell (Nat.le_refl _) _)
     simpa using HSET.out
    all_goals first|(simp[intOf];done)|(simp[intOf];omega)
  ·go_wp2_with fail
   obtain rfl:k=n:=by omega
   refine (jl 4294967296 _ _ _ ol _ (by have:=HB.out.sl (by have:=HO.out;omega);rw[HO.out] at this;exact this) HDO.out).mono ?_
   rintro e w' ⟨j,hj,hcj,hvj,rfl,rfl⟩
   go_wp2
   go_ret
   refine⟨_,rfl,⟨_,_,_,_,rfl,(by have:=HB.out.sl (by have:=HO.out;omega);rw[HO.out] at this;exact this.take j hj),hcj,?_⟩,HBE.out,qk.at _ _ _ _⟩
   rw[hvj]
   have hv:=HV.out
   rw[←HO.out] at hv
   exact half_end (by rw[HO.out,HS.out.len]) hv
theorem nr (ao:Option Addr) (n c:Nat) (l:List Nat) (w:World) (hs:Sl .u32 w ao n c l) (hd:bi 4294967296 l) (hn:n≤1099511627776):
  Calls Tryz.prog 147 #[.slice ao n c] w fun e w'=>e=.returned (.int .i64 (bl (val 4294967296 l)))∧w=w':=by
 have HS:=Lib.hid hs;clear hs
 have HD:=Lib.hid hd;clear hd
 cases n with
 | zero=>
  have:l=[]:=List.length_eq_zero_iff.1 HS.out.len
  subst this
  go_enter Tryz.func147,Tryz.ntmps147
  go_wp2
  go_ret
  exact⟨rfl,rfl⟩
 | succ n=>
  have ht:=HD.out.2 (by rw[HS.out.len];omega)
  rw[HS.out.len,Nat.add_sub_cancel] at ht
  have hbl:=bl_val 32 (l:=l) HD.out.1 n HS.out.len (by omega)
  rw[show (2:Nat) ^ 32=4294967296 from rfl] at hbl
  obtain⟨b1,o1,rfl,hc⟩:=HS.out.at (i:=n) (by omega)
  have d1:=HD.out.1.get (by omega) n
  generalize l[n]?.getD 0=t at *
  generalize val 4294967296 l=V at *
  have HBL:=Lib.hid hbl;clear hbl
  have hblt:bl t≤32:=jy d1
  go_enter Tryz.func147,Tryz.ntmps147
  go_wp2
  go_loop [3,4] (fun nv xv=>∃(j x:Nat),nv=.int .i64 (32 * (n:Int) + j)∧xv=.int .u32 x∧x < 4294967296∧j + bl x=bl t) (fun _ xv=>(intOf xv).toNat)
  case atStart=>exact⟨0,t,rfl,rfl,d1,by omega⟩
  case round=>
   obtain⟨j,x,rfl,rfl,hx,hj⟩:=hrel
   have hj':j≤32:=by omega
   by_cases h0:x=0
   ·subst h0
    rw[bl_zero] at hj
    have HJ:=Lib.hid hj;clear hj
    go_wp2
    go_ret
    refine⟨?_,rfl⟩
    rw[HBL.out,←HJ.out]
    congr 2
   ·have h0':0 < x:=by omega
    have hb:=bl_half h0'
    have HH:=Lib.hid (show (j + 1) + bl (x / 2)=bl t by omega)
    clear hb hj
    go_wp2
    go_round
    case rel=>exact⟨j + 1,x / 2,by go_num,by simp,by omega,HH.out⟩
    all_goals first|(simp[intOf];done)|(simp[intOf];omega)
theorem val_bound {B:Nat} (hB:0 < B) {i m a P:Nat} {l l':List Nat} (hl:cj B l) (hl':cj B l') (hi:(l.take i).length≤i) (hm:l'.length=m) (ha:a < B) (hP:P=val B (l.take i) * val B l'):
  P + a * val B l' * B ^ i < B ^ (i + m + 1):=by
 subst hP
 have h1:=gp hB (hl.take i)
 have h2:=gp hB hl'
 rw[hm] at h2
 have h3:B ^ (l.take i).length≤B ^ i:=Nat.pow_le_pow_right hB hi
 generalize val B (l.take i)=u at *
 generalize val B l'=v at *
 rw[Nat.pow_succ,Nat.pow_add]
 have hu:u < B ^ i:=by omega
 generalize B ^ i=I at *
 generalize B ^ m=M at *
 have a1:u * v≤I * v:=Nat.mul_le_mul_right _ (by omega)
 have a2:(a + 1) * v * I≤B * v * I:=Nat.mul_le_mul_right _ (Nat.mul_le_mul_right _ ha)
 have a3:B * I * (v + 1)≤B * I * M:=Nat.mul_le_mul_left _ h2
 have hI:0 < I:=by omega
 have a4:0 < B * I:=Nat.mul_pos hB hI
 grind
theorem top_small {B:Nat} {ol:List Nat} {j carry T:Nat} (hB:0 < B) (hj:j < ol.length) (h:val B ol + carry * B ^ j=T) (hT:T < B ^ (j + 1)):ol[j]?.getD 0 + carry < B:=by
 have h1:=lj B ol j (by omega)
 rw[ju _ _ _ hj] at h1
 have hp:0 < B ^ j:=Nat.pow_pos hB
 rw[Nat.pow_succ] at hT
 generalize ol[j]?.getD 0=o at *
 have:B ^ j * (o + carry) < B ^ j * B:=by
  have:B ^ j * o≤B ^ j * (o + B * val B (ol.drop (j + 1))):=Nat.mul_le_mul_left _ (by omega)
  rw[Nat.mul_add]
  rw[Nat.mul_comm carry] at h
  omega
 exact Nat.lt_of_mul_lt_mul_left this
theorem mu (ao bo:Option Addr) (n c m d:Nat) (l l':List Nat) (w:World) (hs:Sl .u32 w ao n c l) (hs':Sl .u32 w bo m d l') (hd:cj 4294967296 l) (hd':cj 4294967296 l')
  (hn:n≤1099511627776) (hm:m≤1099511627776):
  Calls Tryz.prog 126 #[.slice ao n c,.slice bo m d] w (si .u32 4294967296 w (val 4294967296 l * val 4294967296 l')):=by
 have HS:=Lib.hid hs;clear hs
 have HS':=Lib.hid hs';clear hs'
 have HD:=Lib.hid hd;clear hd
 have HD':=Lib.hid hd';clear hd'
 obtain⟨i0,hi,hz0,hz1,hz2⟩:=info_parts oq
 go_enter Tryz.func126,Tryz.ntmps126
 go_wp2_with (at_make;refine co _ rfl _ _ 51 rfl 150 i0 .u32 Tryz.underlying51 hi hz0 hz1 _ _ _ _ (n + m) (n + m) rfl rfl ?c1 ?c2 (Nat.le_refl _) ?c3 ?c4 ?_)
 case c1=>omega
 case c2=>omega
 case c3=>rw[hz2];omega
 case c4=>omega
 go_loopw [6] (fun iv wr=>∃(i:Nat) (ol:List Nat),i≤n∧iv=.int .i64 i∧Blk .u32 150 wr w.heap.size ol∧ol.length=n + m∧cj 4294967296 ol∧
   val 4294967296 ol=val 4294967296 (l.take i) * val 4294967296 l'∧Below w.heap.size w wr) (fun iv _=>n - (intOf iv).toNat)
 case atStart=>exact⟨0,_,by omega,rfl,Blk.new .u32 _ w _,by simp,cj.zeros (by omega) _,by simp[val,nw],(Below.refl _ _).alloc (Nat.le_refl _) _⟩
 case round=>
  obtain⟨i,ol,hin,rfl,hblk,hol,hdo,hval,hbel⟩:=hrel
  by_cases hiL:i < n
  ·obtain⟨wo,rfl⟩:∃wo:World,wo=wr:=⟨_,rfl⟩
   have hvb:=val_bound (i:=i) (m:=m) (P:=val 4294967296 (l.take i) * val 4294967296 l') (by omega) HD.out HD'.out (by rw[List.length_take];omega) HS'.out.len (HD.out.get (by omega) i) rfl
   have d1:=HD.out.get (by omega) i
   have HB:=Lib.hid hblk
   have HO:=Lib.hid hol
   have HV:=Lib.hid hval
   have HDO:=Lib.hid hdo
   have HBE:=Lib.hid hbel
   have HVB:=Lib.hid hvb
   clear hblk hol hval hdo hbel hvb
   go_wp2
   go_loopw [7,8] (fun cv kv wr=>∃(k carry:Nat) (ol:List Nat),k≤m + 1∧kv=.int .i64 k∧cv=.int .u64 carry∧carry < 4294967296∧(k=m + 1→carry=0)∧Blk .u32 150 wr w.heap.size ol∧ol.length=n + m∧cj 4294967296 ol∧
    val 4294967296 ol + carry * 4294967296 ^ (i + k)=val 4294967296 (l.take i) * val 4294967296 l' + l[i]?.getD 0 * val 4294967296 (l'.take k) * 4294967296 ^ i∧Below w.heap.size w wr) (fun _ kv _=>m + 1 - (intOf kv).toNat)
   case atStart=>exact⟨0,0,ol,by omega,rfl,rfl,by omega,by omega,HB.out,HO.out,HDO.out,by rw[HV.out];simp[val],HBE.out⟩
   case round=>
    clear HB HO HV HDO HBE
    obtain⟨k,carry,ol,hk,rfl,rfl,hc0,hc1,hblk,hol,hdo,hval,hbel⟩:=hrel
    have e1:=(HS.out).mono hbel
    have e2:=(HS'.out).mono hbel
    have hlt:0 < m→∀b o,bo=some ⟨b,o,none⟩→b < w.heap.size:=by rintro h b o rfl;exact HS'.out.lt h
    have HLT:=Lib.hid hlt
    have HB:=Lib.hid hblk
    have HO:=Lib.hid hol
    have HV:=Lib.hid hval
    have HDO:=Lib.hid hdo
    have HBE:=Lib.hid hbel
    have HE1:=Lib.hid e1
    have HE2:=Lib.hid e2
    have HC1:=Lib.hid hc1
    clear hblk hol hval hdo hbel e1 e2 hlt hc1
    have d2:=HD'.out.get (by omega) k
    have z2:m≤k→l'[k]?.getD 0=0:=fun h=>by rw[List.getElem?_eq_none (by have:=HS'.out.len;omega)];rfl
    have Z2:=Lib.hid z2
    clear z2
    have fin:∀(wf:World) (x:Nat),i + k < n + m→k < m + 1→(k=m→x < 4294967296)→x=ol[i + k]?.getD 0 + carry + l[i]?.getD 0 * l'[k]?.getD 0→x / 4294967296 < 4294967296→Blk .u32 150 wf w.heap.size (ol.set (i + k) (x % 4294967296))→Below w.heap.size w wf→
      ∃(k' carry':Nat) (ol':List Nat),k'≤m + 1∧Value.int .i64 ((k:Int) + 1)=.int .i64 k'∧Value.int .u64 ((x:Int) / 4294967296)=.int .u64 carry'∧carry' < 4294967296∧(k'=m + 1→carry'=0)∧Blk .u32 150 wf w.heap.size ol'∧ol'.length=n + m∧cj 4294967296 ol'∧
      val 4294967296 ol' + carry' * 4294967296 ^ (i + k')=val 4294967296 (l.take i) * val 4294967296 l' + l[i]?.getD 0 * val 4294967296 (l'.take k') * 4294967296 ^ i∧Below w.heap.size w wf:=by
     intro wf x h1 h2 h3 hx hxb hb hbe
     exact⟨k + 1,x / 4294967296,_,by omega,by go_num,rfl,hxb,by intro hk';have:=h3 (by omega);omega,hb,by rw[List.length_set];exact HO.out,HDO.out.set _ _ (Nat.mod_lt _ (by omega)),mul_step _ _ _ _ _ _ _ _ _ (by rw[HO.out];exact h1) HV.out hx.symm,hbe⟩
    have FIN:=Lib.hid fin
    clear fin
    by_cases hkm:k < m
    ·have hcell:=HB.out.cell (j:=i + k) (by have:=HO.out;omega)
     have hfree:=HB.out.free (i + k)
     have d3:=HDO.out.get (by omega) (i + k)
     have hab:l[i]?.getD 0 * l'[k]?.getD 0≤4294967295 * 4294967295:=Nat.mul_le_mul (by omega) (by omega)
     have hab':((l[i]?.getD 0:Nat):Int) * ((l'[k]?.getD 0:Nat):Int)≤18446744065119617025:=by
      have:((l[i]?.getD 0 * l'[k]?.getD 0:Nat):Int)≤18446744065119617025:=by omega
      simpa using this
     have hab0:0≤((l[i]?.getD 0:Nat):Int) * ((l'[k]?.getD 0:Nat):Int):=by
      have:0≤((l[i]?.getD 0 * l'[k]?.getD 0:Nat):Int):=Int.natCast_nonneg _
      simpa using this
     have HAB:=Lib.hid hab
     clear hab
     obtain⟨b1,o1,rfl,hc1⟩:=HE1.out.at hiL
     obtain⟨b2,o2,rfl,hc2⟩:=HE2.out.at hkm
     have hq:(ol[i + k]?.getD 0 + carry + l[i]?.getD 0 * l'[k]?.getD 0) / 4294967296 < 4294967296:=by have:=HAB.out;omega
     have HQ:=Lib.hid hq
     clear hq
     go_wp2
     go_quiet (fail)
     go_wp2
     go_roundw
     case rel=>exact FIN.out _ (ol[i + k]?.getD 0 + carry + l[i]?.getD 0 * l'[k]?.getD 0) (by omega) (by omega) (by omega) rfl HQ.out (by have:=(HB.out.drewN nq).set (i + k) ((ol[i + k]?.getD 0 + carry + l[i]?.getD 0 * l'[k]?.getD 0) % 4294967296);simpa using this) ((it HBE.out nq).setCell (Nat.le_refl _) _)
     all_goals first|(simp[intOf];done)|(simp[intOf];omega)
    ·by_cases hcz:carry=0
     ·subst hcz
      have h1':¬ ((k:Int) < (m:Int)):=by omega
      go_wp2
      go_roundw
      case rel=>
       refine⟨i + 1,ol,by omega,by go_num,HB.out,HO.out,HDO.out,?_,HBE.out⟩
       have:=HV.out
       rw[bg _ l' k (by have:=HS'.out.len;omega),Nat.zero_mul,Nat.add_zero] at this
       rw[this,dj]
       generalize val 4294967296 (l.take i)=A
       generalize 4294967296 ^ i=Bi
       generalize l[i]?.getD 0=a
       grind
      all_goals first|(simp[intOf];done)|(simp[intOf];omega)
     ·have hk':k=m:=by have:=HC1.out;omega
      have hkm':m≤k:=by omega
      have hcz':0 < carry:=by omega
      have hcell:=HB.out.cell (j:=i + k) (by have:=HO.out;omega)
      have hfree:=HB.out.free (i + k)
      have d3:=HDO.out.get (by omega) (i + k)
      have hik:i + k < n + m:=by omega
      have hsm:ol[i + k]?.getD 0 + carry < 4294967296:=by
       subst hk'
       exact top_small (by omega) (by rw[HO.out];exact hik) (by have:=HV.out;rw[bg _ l' k (by have:=HS'.out.len;omega)] at this;exact this) HVB.out
      have hset:=HB.out.set (i + k) ((ol[i + k]?.getD 0 + carry) % 4294967296)
      have HSET:=Lib.hid hset
      clear hset
      have HK:=Lib.hid hk'
      clear hk'
      go_wp2
      go_roundw
      case rel=>
       refine FIN.out _ (ol[i + k]?.getD 0 + carry) hik (Nat.lt_succ_of_le (Nat.le_of_eq HK.out)) (fun _=>hsm) ?_ (by omega) (by simpa using HSET.out) (HBE.out.setCell (Nat.le_refl _) _)
       rw[Z2.out hkm',Nat.mul_zero,Nat.add_zero]
      all_goals first|(simp[intOf];done)|(have:=HK.out;simp[intOf];omega)
  ·have HB:=Lib.hid hblk
   have HO:=Lib.hid hol
   have HV:=Lib.hid hval
   have HDO:=Lib.hid hdo
   have HBE:=Lib.hid hbel
   clear hblk hol hval hdo hbel
   go_wp2_with fail
   obtain rfl:i=n:=by omega
   refine (jl 4294967296 _ _ _ ol _ (by have:=HB.out.sl (by have:=HO.out;omega);rw[HO.out] at this;exact this) HDO.out).mono ?_
   rintro e w' ⟨j,hj,hcj,hvj,rfl,rfl⟩
   go_wp2
   go_ret
   refine⟨_,rfl,⟨_,_,_,_,rfl,(by have:=HB.out.sl (by have:=HO.out;omega);rw[HO.out] at this;exact this.take j hj),hcj,?_⟩,HBE.out,qk.at _ _ _ _⟩
   rw[hvj,HV.out,bg _ l _ (by have:=HS.out.len;omega)]
end Go.Proofs.YtbnomdlojmgigaaGreat
