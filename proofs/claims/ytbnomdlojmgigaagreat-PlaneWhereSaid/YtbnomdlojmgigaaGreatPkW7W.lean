/-
  The contracts of the program's naturals, eighth part: digit.
-/
import Derived.Test.YtbnomdlojmgigaaGreatPkW6W
import Derived.Test.YtbnomdlojmgigaaGreatPkW4W
set_option linter.unusedSimpArgs false
set_option linter.unusedVariables false
set_option maxRecDepth 100000
set_option maxHeartbeats 4000000
namespace Go.Proofs.YtbnomdlojmgigaaGreat
open Go.RowKit Dg
theorem top2 {l:List Nat} {k:Nat} (h:l.length=k + 2):val 18446744073709551616 l=val 18446744073709551616 (l.take k) + 18446744073709551616 ^ k * (l[k]?.getD 0 + 18446744073709551616 * l[k+1]?.getD 0):=by
 have h1:=dn 18446744073709551616 l k (by omega)
 have h2:=dn 18446744073709551616 l (k + 1) (by omega)
 rw[bg _ l (k + 1 + 1) (by omega),h1,Nat.pow_succ] at h2
 rw[h2,Nat.mul_add,Nat.mul_assoc,Nat.add_assoc]
theorem top3 {l:List Nat} {k:Nat} (h:l.length=k + 3):val 18446744073709551616 l=val 18446744073709551616 (l.take k) + 18446744073709551616 ^ k * (l[k]?.getD 0 + 18446744073709551616 * (l[k+1]?.getD 0 + 18446744073709551616 * l[k+2]?.getD 0)):=by
 have h1:=dn 18446744073709551616 l k (by omega)
 have h2:=dn 18446744073709551616 l (k + 1) (by omega)
 have h3:=dn 18446744073709551616 l (k + 2) (by omega)
 rw[bg _ l (k + 2 + 1) (by omega),h2,h1] at h3
 rw[h3,show (18446744073709551616:Nat) ^ (k + 2)=18446744073709551616 ^ k * 18446744073709551616 * 18446744073709551616 from by rw[Nat.pow_succ,Nat.pow_succ],Nat.pow_succ]
 simp only[Nat.mul_add,Nat.mul_assoc,Nat.add_assoc]
theorem quo_first {B P U V low lowv u2 u1 un v2 v1 q r:Nat} (hU:U=low + P * (u2 + B * (u1 + B * un))) (hV:V=lowv + P * (v2 + B * v1)) (hlow:low < P) (hu2:u2 < B)
  (h:q * v1 + r=un * B + u1) (hr:r < v1) (hv0:0 < V):U / V≤q:=by
 apply Nat.le_of_lt_succ
 rw[Nat.div_lt_iff_lt_mul hv0]
 have h1:un * B + u1 + 1≤(q + 1) * v1:=by rw[Nat.add_mul];omega
 have h2:P * B * (un * B + u1 + 1)≤P * B * ((q + 1) * v1):=Nat.mul_le_mul_left _ h1
 have h3:P * (u2 + 1)≤P * B:=Nat.mul_le_mul_left _ hu2
 have h4:U < P * B * (un * B + u1 + 1):=by
  rw[hU]
  have e:P * (u2 + B * (u1 + B * un))=P * u2 + P * B * (un * B + u1):=by grind
  have e5:P * B * (un * B + u1 + 1)=P * B * (un * B + u1) + P * B:=Nat.mul_succ _ _
  have e6:P * (u2 + 1)=P * u2 + P:=Nat.mul_succ _ _
  omega
 have h5:P * B * ((q + 1) * v1)≤(q + 1) * V:=by
  rw[hV]
  have e:(q + 1) * (lowv + P * (v2 + B * v1))=(q + 1) * lowv + (q + 1) * (P * v2) + P * B * ((q + 1) * v1):=by grind
  omega
 show U < (q + 1) * V
 omega
theorem quo_lower {B P U V low lowv u2 u1 un v2 v1 q r:Nat} (hU:U=low + P * (u2 + B * (u1 + B * un))) (hV:V=lowv + P * (v2 + B * v1)) (hlow:low < P)
  (h:q * v1 + r=un * B + u1) (hbig:r * B + u2 < q * v2) (hv0:0 < V):U / V < q:=by
 rw[Nat.div_lt_iff_lt_mul hv0]
 have h1:P * (r * B + u2 + 1)≤P * (q * v2):=Nat.mul_le_mul_left _ hbig
 have e1:q * V=q * lowv + P * (q * v2) + P * B * (q * v1):=by rw[hV];grind
 have e2:P * B * (q * v1) + P * B * r=P * B * (un * B + u1):=by rw[←h];grind
 have e3:U=low + P * u2 + P * B * (un * B + u1):=by rw[hU];grind
 have e4:P * (r * B + u2 + 1)=P * B * r + P * u2 + P:=by grind
 omega
theorem div64q (hi lo y q r:Nat) (w:World) (hh:hi < y) (hy:y < 18446744073709551616) (hl:lo < 18446744073709551616) (h:q * y + r=hi * 18446744073709551616 + lo) (hr:r < y):
  Calls Tryz.prog 138 #[.int .u64 hi,.int .u64 lo,.int .u64 y] w fun e w'=>e=.returned (.tuple #[.int .u64 q,.int .u64 r])∧∃m,w'=w.drewN m:=by
 refine (div64 hi lo y w hh hy hl).mono ?_
 rintro e w' ⟨q',r',rfl,hw,h',hr'⟩
 have h1:=nf h hr
 have h2:=nf h' hr'
 rw[h1.1,h1.2,h2.1,h2.2]
 exact⟨rfl,hw⟩
theorem quiet_more {P:Program} {f:FuncId} {args:Array Value} {w:World} {a b:Nat} {v:Value}
  (h:Calls P f args (w.drewN (a + b)) fun e w'=>e=.returned v∧∃m,w'=(w.drewN (a + b)).drewN m):Calls P f args (w.drewN (a + b)) fun e w''=>e=.returned v∧∃n,w''=w.drewN (a + n):=
 h.mono fun _ _ ⟨he,m,hm⟩=>⟨he,b + m,by rw[hm,World.drewN_drewN,Nat.add_assoc]⟩
def RetDigit (w:World) (g n:Nat) (A ol C:List Nat) (r:List Value) (V:Nat) (e:Ending) (w':World):Prop:=
 ∃ol',e=.returned (.int .u64 ((val 18446744073709551616 ol / V:Nat):Int))∧ol'.length=n + 1∧cj 18446744073709551616 ol'∧val 18446744073709551616 ol'=val 18446744073709551616 ol % V∧
  iz .u64 108 w' g (A ++ ol' ++ C) r∧Only g w w'
theorem l_digit_calls (g n cu cv:Nat) (vo:Option Addr) (A ol C lv:List Nat) (r:List Value) (w:World) (hb:iz .u64 108 w g (A ++ ol ++ C) r) (hol:ol.length=n + 1) (hdo:cj 18446744073709551616 ol)
  (hcu:n + 1≤cu) (hcm:cu≤9223372036854775807) (hv:Sl .u64 w vo n cv lv) (hdv:cj 18446744073709551616 lv) (haw:ry g (.slice vo n cv)) (hn2:2≤n) (hn:n≤1099511627776)
  (hv0:0 < lv[n - 1]?.getD 0) (hlt:val 18446744073709551616 ol < 18446744073709551616 * val 18446744073709551616 lv):
  Calls Tryz.prog 117 #[.slice (some ⟨g,A.length,none⟩) (n + 1) cu,.slice vo n cv] w (RetDigit w g n A ol C r (val 18446744073709551616 lv)):=by
 have hUe:val 18446744073709551616 ol=val 18446744073709551616 (ol.take (n - 2)) + 18446744073709551616 ^ (n - 2) * (ol[n - 2]?.getD 0 + 18446744073709551616 * (ol[n - 1]?.getD 0 + 18446744073709551616 * ol[n]?.getD 0)):=by
  obtain⟨k,rfl⟩:∃k,n=k + 2:=⟨n - 2,by omega⟩
  exact top3 hol
 have hVe:val 18446744073709551616 lv=val 18446744073709551616 (lv.take (n - 2)) + 18446744073709551616 ^ (n - 2) * (lv[n - 2]?.getD 0 + 18446744073709551616 * lv[n - 1]?.getD 0):=by
  obtain⟨k,rfl⟩:∃k,n=k + 2:=⟨n - 2,by omega⟩
  exact top2 hv.len
 have hlow:=gp (by omega) (hdo.take (n - 2))
 rw[List.length_take,hol,Nat.min_eq_left (by omega)] at hlow
 have u2lt:=hdo.get (by omega) (n - 2)
 have u1lt:=hdo.get (by omega) (n - 1)
 have unlt:=hdo.get (by omega) n
 have v2lt:=hdv.get (by omega) (n - 2)
 have v1lt:=hdv.get (by omega) (n - 1)
 have hVpos:0 < val 18446744073709551616 lv:=by
  rw[hVe]
  have:=Nat.pow_pos (n:=n - 2) (show 0 < 18446744073709551616 by omega)
  have:=Nat.mul_pos this (show 0 < lv[n - 2]?.getD 0 + 18446744073709551616 * lv[n - 1]?.getD 0 by omega)
  omega
 have hQlt:val 18446744073709551616 ol / val 18446744073709551616 lv < 18446744073709551616:=by rw[Nat.div_lt_iff_lt_mul hVpos];exact hlt
 have hfirst:=fun (q r:Nat)=>quo_first (q:=q) (r:=r) hUe hVe hlow u2lt
 have hlower:=fun (q r:Nat)=>quo_lower (q:=q) (r:=r) hUe hVe hlow
 have hcellu:=fun (t:Nat) (ht:t < n + 1)=>hb.cell (j:=A.length + t) (by simp;omega)
 have hcu:∀t,t < n + 1→w.cell? ⟨g,A.length + t,none⟩=some (.int .u64 ((ol[t]?.getD 0:Nat):Int)):=by
  intro t ht
  have:=hcellu t ht
  rw[get_mid A ol C t (by omega)] at this
  exact this
 have cu0:=hcu (n - 2) (by omega)
 have cu1:=hcu (n - 1) (by omega)
 have cu2:=hcu n (by omega)
 obtain⟨bv,ov,rfl,hcv⟩:=hv.all (by omega)
 have cv0:=hcv (n - 2) (by omega)
 have cv1:=hcv (n - 1) (by omega)
 have HB:=Lib.hid hb
 have HOL:=Lib.hid hol
 have HDO:=Lib.hid hdo
 have HV:=Lib.hid hv
 have HDV:=Lib.hid hdv
 have HAW:=Lib.hid haw
 have HFIRST:=Lib.hid hfirst
 have HLOWER:=Lib.hid hlower
 have HVPOS:=Lib.hid hVpos
 generalize hQ:val 18446744073709551616 ol / val 18446744073709551616 lv=Q at *
 have HQ:=Lib.hid hQ
 clear hb hol hdo hv hdv haw hfirst hlower hVpos hcu hcellu hcv hUe hVe hlow hlt hQ
 generalize hjA:A.length=j at *
 have HJ:=Lib.hid hjA;clear hjA
 generalize hU2:ol[n - 2]?.getD 0=u2 at *
 generalize hU1:ol[n - 1]?.getD 0=u1 at *
 generalize hUn:ol[n]?.getD 0=un at *
 generalize hV2:lv[n - 2]?.getD 0=v2 at *
 generalize hV1:lv[n - 1]?.getD 0=v1 at *
 clear hU2 hU1 hUn hV2 hV1
 go_enter Tryz.func117,Tryz.ntmps117
 go_wp2
 go_quiet (fail)
 go_upto_if 22 with fail
 go_cut [6,7,8,9,10,22] from 23 to 81 (fun gv _ _ _ _ _ wx=>∃gq:Nat,gv=.int .u64 gq∧Q≤gq∧gq < 18446744073709551616∧∃m,w.drewN m=wx)
 case first=>
  by_cases hlt:un < v1
  ·have hlt':(un:Int) < (v1:Int):=by omega
   have hdec:decide (un < v1)=true:=decide_eq_true hlt
   simp only[hdec]
   obtain⟨q0,hq0⟩:∃q0,q0=(un * 18446744073709551616 + u1) / v1:=⟨_,rfl⟩
   obtain⟨r0,hr0⟩:∃r0,r0=(un * 18446744073709551616 + u1) % v1:=⟨_,rfl⟩
   have hr0':r0 < v1:=by rw[hr0];exact Nat.mod_lt _ hv0
   have hqr0:q0 * v1 + r0=un * 18446744073709551616 + u1:=by rw[hq0,hr0,Nat.mul_comm];exact Nat.div_add_mod _ _
   have hq0B:q0 < 18446744073709551616:=by rw[hq0];exact xx hlt u1lt
   have hQq0:=HFIRST.out q0 r0 hqr0 hr0' HVPOS.out
   have D1:=fun (w:World)=>div64q un u1 v1 q0 r0 w hlt v1lt u1lt hqr0 hr0'
   have HQR0:=Lib.hid hqr0
   have HD1:=Lib.hid D1
   clear hq0 hr0 hqr0 D1
   have hi3:IntKind.i64.wrap ((n:Int) - 1)=(n:Int) - 1:=jo _ (by omega) (by omega)
   have hi4:(0:Int)≤(n:Int) - 1:=by omega
   have hi5:(n:Int) - 1 < (n:Int) + 1:=by omega
   have hi6:(n:Int) - 1 < (n:Int):=by omega
   have hi7:((n:Int) - 1).toNat=n - 1:=by omega
   have hi8:(0:Int)≤(n:Int):=by omega
   have hi10:(1:Int)≤(n:Int):=by omega
   have hi9:(n:Int) < (n:Int) + 1:=by omega
   go_wp2
   go_quiet (first|(go_at_call 138;exact quiet_more (HD1.out _)))
   go_wp2
   go_loopw [6,7,8,9,10] (fun gv rv _ _ _ wr=>∃(q r m:Nat),gv=.int .u64 q∧rv=.int .u64 r∧q * v1 + r=un * 18446744073709551616 + u1∧Q≤q∧q < 18446744073709551616∧r < 18446744073709551616∧wr=w.drewN m) (fun gv _ _ _ _ _=>(intOf gv).toNat)
   case atStart=>exact⟨q0,r0,_,rfl,rfl,HQR0.out,hQq0,hq0B,by omega,World.drewN_drewN ..⟩
   case round=>
    obtain⟨q,r,m,rfl,rfl,hqr,hQq,hqB,hrB,rfl⟩:=hrel
    have HQR:=Lib.hid hqr
    clear hqr HQR0 hQq0 hq0B hr0'
    go_wp2_with fail
    refine (mul64 q v2 hqB v2lt _).mono ?_
    rintro e w' ⟨hi,lo,rfl,rfl,hp,hlo,hhi⟩
    have HP:=Lib.hid hp
    clear hp
    have hdown:(r * 18446744073709551616 + u2 < hi * 18446744073709551616 + lo)→Q < q:=by
     intro h
     exact HLOWER.out q r HQR.out (by rw[←HP.out];exact h) HVPOS.out
    have hnext:0 < q→(q - 1) * v1 + (r + v1)=un * 18446744073709551616 + u1:=by
     intro h
     obtain⟨t,rfl⟩:∃t,q=t + 1:=⟨q - 1,by omega⟩
     rw[←HQR.out,Nat.add_sub_cancel,Nat.add_mul]
     omega
    have HDOWN:=Lib.hid hdown
    have HNEXT:=Lib.hid hnext
    clear hdown hnext
    by_cases h1:hi < r
    ·have h1':(hi:Int) < (r:Int):=by omega
     go_wp2
     go_meet
     exact⟨q,rfl,hQq,hqB,_,rfl⟩
    ·have h1':¬ (hi:Int) < (r:Int):=by omega
     by_cases h2:hi=r
     ·subst h2
      by_cases h3:lo≤u2
      ·have h3':(lo:Int)≤(u2:Int):=by omega
       go_wp2
       go_meet
       exact⟨q,rfl,hQq,hqB,_,rfl⟩
      ·have h3':¬ (lo:Int)≤(u2:Int):=by omega
       have hlt2:=HDOWN.out (by omega)
       have A1:=uy (hi:Int) (v1:Int) (by omega) (by omega)
       by_cases h4:hi + v1 < 18446744073709551616
       ·have e1:((hi:Int) + (v1:Int)) % 18446744073709551616=(hi:Int) + (v1:Int):=by omega
        have e2:((hi:Int) + (v1:Int)) / 18446744073709551616=0:=by omega
        rw[e1,e2] at A1
        clear e1 e2
        go_wp2
        go_roundw
        case rel=>exact⟨q - 1,hi + v1,m,by congr 1;omega,by go_num,HNEXT.out (by omega),by omega,by omega,by omega,(by first|rfl|trivial)⟩
        all_goals first|(simp[intOf];done)|(simp[intOf];omega)
       ·have e2:((hi:Int) + (v1:Int)) / 18446744073709551616=1:=by omega
        rw[e2] at A1
        clear e2
        go_wp2
        go_meet
        exact⟨q - 1,by congr 1;omega,by omega,by omega,_,rfl⟩
     ·have h2':((hi:Int) == (r:Int))=false:=by rw[beq_eq_false_iff_ne];omega
      have h5:r * 18446744073709551616 + 18446744073709551616≤hi * 18446744073709551616:=by
       have:(r + 1) * 18446744073709551616≤hi * 18446744073709551616:=Nat.mul_le_mul_right _ (by omega)
       rw[Nat.add_mul,Nat.one_mul] at this
       exact this
      have hlt2:=HDOWN.out (by omega)
      clear h5
      have A1:=uy (r:Int) (v1:Int) (by omega) (by omega)
      by_cases h4:r + v1 < 18446744073709551616
      ·have e1:((r:Int) + (v1:Int)) % 18446744073709551616=(r:Int) + (v1:Int):=by omega
       have e2:((r:Int) + (v1:Int)) / 18446744073709551616=0:=by omega
       rw[e1,e2] at A1
       clear e1 e2
       go_wp2
       go_roundw
       case rel=>exact⟨q - 1,r + v1,m,by congr 1;omega,by go_num,HNEXT.out (by omega),by omega,by omega,by omega,(by first|rfl|trivial)⟩
       all_goals first|(simp[intOf];done)|(simp[intOf];omega)
      ·have e2:((r:Int) + (v1:Int)) / 18446744073709551616=1:=by omega
       rw[e2] at A1
       clear e2
       go_wp2
       go_meet
       exact⟨q - 1,by congr 1;omega,by omega,by omega,_,rfl⟩
  ·have hlt':¬ (un:Int) < (v1:Int):=by omega
   go_wp2
   go_meet
   exact⟨18446744073709551615,rfl,by omega,by omega,_,rfl⟩
 case rest=>
  obtain⟨gq,rfl,hQg,hgB,m,rfl⟩:=hcut
  go_wp2
  go_loopw [6] (fun gv wr=>∃gq:Nat,gv=.int .u64 gq∧Q≤gq∧gq < 18446744073709551616∧iz .u64 108 wr g (A ++ ol ++ C) r∧Only g w wr) (fun gv _=>(intOf gv).toNat)
  case atStart=>exact⟨gq,rfl,hQg,hgB,HB.out.drewN m,(Only.refl g w).drawN m⟩
  case round=>
   obtain⟨gq,rfl,hQg,hgB,hbl,honly⟩:=hrel
   have HBL:=Lib.hid hbl
   have HON:=Lib.hid honly
   clear hbl honly
   go_wp2_with fail
   have hcall:=l_take_calls g n cu cv gq (some ⟨bv,ov,none⟩) A ol C lv r _ HBL.out HOL.out HDO.out hcu hcm (HV.out.only HAW.out HON.out) HDV.out HAW.out hgB (by omega)
   rw[HJ.out] at hcall
   refine hcall.mono ?_
   rintro e w' ⟨ol',hcase,hbl',honly'⟩
   have HBL':=Lib.hid hbl'
   have HON':=Lib.hid (HON.out.trans honly')
   clear hbl' honly' hcall
   rcases hcase with ⟨hless,rfl,rfl⟩|⟨hge,rfl,hl',hd',hv'⟩
   ·have hQlt2:Q < gq:=by
     have:=(Nat.div_lt_iff_lt_mul HVPOS.out).2 hless
     rw[HQ.out] at this
     exact this
    clear hless
    go_wp2
    go_roundw
    case rel=>
     exact⟨gq - 1,by congr 1;omega,by omega,by omega,HBL'.out,HON'.out⟩
    all_goals first|(simp[intOf];done)|(simp[intOf];omega)
   ·have hQe:gq=Q:=by
     have:=(Nat.le_div_iff_mul_le HVPOS.out).2 hge
     rw[HQ.out] at this
     omega
    subst hQe
    have HV':=Lib.hid hv'
    clear hge hv'
    go_wp2
    go_ret
    refine⟨ol',by rw[HQ.out];rfl,hl',hd',?_,HBL'.out,HON'.out⟩
    rw[HV'.out,←HQ.out]
    have:=Nat.div_add_mod (val 18446744073709551616 ol) (val 18446744073709551616 lv)
    rw[Nat.mul_comm (val 18446744073709551616 ol / _)]
    omega
end Go.Proofs.YtbnomdlojmgigaaGreat
namespace Go.Proofs.YtbnomdlojmgigaaGreat.Dg
theorem parts3 (L:List Nat) (k m:Nat):L=L.take k ++ (L.drop k).take m ++ L.drop (k + m):=by
 rw[List.append_assoc,show L.drop (k + m)=(L.drop k).drop m from by rw[List.drop_drop],List.take_append_drop,List.take_append_drop]
theorem part_val {B:Nat} (hB:0 < B) {L:List Nat} {k n V:Nat} (hd:cj B L) (hk:k < L.length) (hV:V≤B ^ n) (h:val B (L.drop (k + 1)) < V):
  val B ((L.drop k).take (n + 1))=val B (L.drop k)∧val B (L.drop k) < B * V∧val B (L.drop (k + (n + 1)))=0:=by
 have h1:=ju B L k hk
 have h2:=hd.get hB k
 have h3:B * (val B (L.drop (k + 1)) + 1)≤B * V:=Nat.mul_le_mul_left _ h
 rw[Nat.mul_add,Nat.mul_one] at h3
 have h4:val B (L.drop k) < B * V:=by omega
 have h5:B * V≤B ^ (n + 1):=by rw[Nat.pow_succ,Nat.mul_comm];exact Nat.mul_le_mul_right _ hV
 have e:L.drop k=(L.drop k).take (n + 1) ++ L.drop (k + (n + 1)):=by
  rw[show L.drop (k + (n + 1))=(L.drop k).drop (n + 1) from by rw[List.drop_drop],List.take_append_drop]
 have h6:=congrArg (val B) e
 rw[il] at h6
 by_cases hl:n + 1≤(L.drop k).length
 ·rw[List.length_take,Nat.min_eq_left hl] at h6
  have h7:val B (L.drop (k + (n + 1)))=0:=by
   rcases Nat.eq_zero_or_pos (val B (L.drop (k + (n + 1)))) with h|h
   ·exact h
   ·have:B ^ (n + 1) * 1≤B ^ (n + 1) * val B (L.drop (k + (n + 1))):=Nat.mul_le_mul_left _ h
    omega
  rw[h7,Nat.mul_zero,Nat.add_zero] at h6
  exact⟨h6.symm,h4,h7⟩
 ·have h7:L.drop (k + (n + 1))=[]:=by
   apply List.drop_of_length_le
   rw[List.length_drop] at hl
   omega
  rw[h7] at h6 ⊢
  simp only[val,Nat.mul_zero,Nat.add_zero] at h6
  exact⟨h6.symm,h4,rfl⟩
theorem long_step {B:Nat} (L ql ol':List Nat) (k n V A':Nat) (hkL:k < L.length) (hkq:k < ql.length)
  (hC:val B (L.drop (k + (n + 1)))=0) (hol:val B ((L.drop k).take (n + 1))=val B (L.drop k))
  (hol':val B ol'=val B (L.drop k) % V) (hV:0 < V)
  (h:val B L + val B (ql.drop (k + 1)) * V * B ^ (k + 1)=A'):
  val B (L.take k ++ ol' ++ L.drop (k + (n + 1))) + val B ((ql.set k (val B (L.drop k) / V)).drop k) * V * B ^ k=A'∧
   val B ((L.take k ++ ol' ++ L.drop (k + (n + 1))).drop k) < V:=by
 have hlk:(L.take k).length=k:=by rw[List.length_take];omega
 have hd:(L.take k ++ ol' ++ L.drop (k + (n + 1))).drop k=ol' ++ L.drop (k + (n + 1)):=by
  rw[List.append_assoc,List.drop_append_of_le_length (by omega),List.drop_of_length_le (by omega),List.nil_append]
 have hv:val B (ol' ++ L.drop (k + (n + 1)))=val B (L.drop k) % V:=by
  rw[il,hC,Nat.mul_zero,Nat.add_zero,hol']
 refine⟨?_,by rw[hd,hv];exact Nat.mod_lt _ hV⟩
 rw[List.append_assoc,il,hlk,hv,xr _ _ _ _ hkq]
 have h1:=lj B L k (by omega)
 have h2:=Nat.div_add_mod (val B (L.drop k)) V
 rw[←h,h1,Nat.pow_succ]
 generalize val B (L.drop k) / V=q at *
 generalize val B (L.drop k) % V=r at *
 generalize val B (L.drop k)=z at *
 generalize val B (ql.drop (k + 1))=x at *
 generalize val B (L.take k)=y at *
 generalize B ^ k=P at *
 subst h2
 grind
theorem long_start {B:Nat} (hB:1 < B) {ll lv:List Nat} {n:Nat} (hd:cj B ll) (hn:lv.length=n) (hc:bi B lv) (h1:0 < n) (h2:n≤ll.length):
  val B ((ll ++ [0]).drop (ll.length + 1 - n)) < val B lv:=by
 rw[List.drop_append_of_le_length (by omega),il]
 have h3:=gp (by omega) (hd.drop (ll.length + 1 - n))
 have h4:=hc.ge (by omega)
 rw[List.length_drop,show ll.length - (ll.length + 1 - n)=n - 1 from by omega] at h3
 rw[hn] at h4
 rw[ns,Nat.mul_zero,Nat.add_zero]
 omega
end Go.Proofs.YtbnomdlojmgigaaGreat.Dg
namespace Go.Proofs.YtbnomdlojmgigaaGreat
open Go.RowKit Dg
theorem l_divide_less (ao bo:Option Addr) (n c m d:Nat) (l l':List Nat) (w:World) (hs:Sl .u64 w ao n c l) (hs':Sl .u64 w bo m d l') (hd:bi 18446744073709551616 l) (hd':bi 18446744073709551616 l')
  (hlt:val 18446744073709551616 l < val 18446744073709551616 l'):
  Calls Tryz.prog 79 #[.slice ao n c,.slice bo m d] w (pu .u64 18446744073709551616 w (val 18446744073709551616 l / val 18446744073709551616 l') (val 18446744073709551616 l % val 18446744073709551616 l')):=by
 rw[Nat.div_eq_of_lt hlt,Nat.mod_eq_of_lt hlt]
 have hcmp:=mj ao bo n c m d l l' w hs hs' hd hd'
 have HN:=Lib.hid (ck.sl hs hd)
 have hord:=ws hlt
 have HC:=Lib.hid hcmp
 clear hs hs' hd hd' hlt hcmp
 go_enter Tryz.func79,Tryz.ntmps79
 go_wp2_with fail
 refine (HC.out).mono ?_
 rintro e w' ⟨q,rfl,rfl⟩
 go_wp2
 go_ret2
 exact⟨_,_,rfl,⟨_,_,_,[],rfl,Sl.empty _ _ _ _ (by omega) (fun _=>rfl),bi.nil _,rfl⟩,HN.out.mono (it (Below.refl _ _) q),it (Below.refl _ _) q⟩
theorem l_divide_one (ao bo:Option Addr) (n c d:Nat) (l l':List Nat) (w:World) (hs:Sl .u64 w ao n c l) (hs':Sl .u64 w bo 1 d l') (hd:bi 18446744073709551616 l) (hd':bi 18446744073709551616 l')
  (hn:n≤1099511627776) (hge:val 18446744073709551616 l'≤val 18446744073709551616 l):
  Calls Tryz.prog 79 #[.slice ao n c,.slice bo 1 d] w (pu .u64 18446744073709551616 w (val 18446744073709551616 l / val 18446744073709551616 l') (val 18446744073709551616 l % val 18446744073709551616 l')):=by
 have hcmp:=mj ao bo n c 1 d l l' w hs hs' hd hd'
 have hord:=ub hge
 have HC:=Lib.hid hcmp
 obtain⟨y,rfl⟩:=List.length_eq_one_iff.1 hs'.len
 rw[ns] at *
 have hy:y≠0:=by have:=hd'.2 (by simp);simpa using this
 have hyB:y < 18446744073709551616:=hd'.1 y (by simp)
 obtain⟨b1,o1,rfl,hcell⟩:=hs'.at (i:=0) (by omega)
 simp only[Nat.add_zero,List.getElem?_cons_zero,Option.getD_some] at hcell
 have HS:=Lib.hid hs
 have HD:=Lib.hid hd.1
 clear hs hs' hd hd' hge hcmp
 go_enter Tryz.func79,Tryz.ntmps79
 go_wp2_with fail
 refine (HC.out).mono ?_
 rintro e w' ⟨q,rfl,rfl⟩
 go_wp2_with fail
 refine (tc _ _ _ _ y _ (HS.out.mono (it (Below.refl _ _) q)) HD.out (by omega) hyB hn).mono ?_
 rintro e w1 ⟨v1,rfl,hv1,hb1⟩
 have hrlt:=Nat.mod_lt (val 18446744073709551616 l) (show 0 < y by omega)
 generalize val 18446744073709551616 l % y=r at *
 have HV1:=Lib.hid hv1
 have HB1:=Lib.hid hb1
 clear hv1 hb1
 go_wp2_with fail
 refine (qx r _ (by omega)).mono ?_
 rintro e w2 ⟨v2,rfl,hv2,hb2⟩
 have HV2:=Lib.hid hv2
 have HB2:=Lib.hid hb2
 clear hv2 hb2
 go_wp2
 go_ret2
 exact⟨_,_,rfl,HV1.out.mono HB2.out,HV2.out,((it (Below.refl _ _) q).trans (HB1.out)).trans (HB2.out.mono HB1.out.size)⟩
end Go.Proofs.YtbnomdlojmgigaaGreat
namespace Go.Proofs.YtbnomdlojmgigaaGreat
open Go.RowKit Dg
theorem canon_len {l:List Nat} {x n:Nat} (hc:bi 18446744073709551616 l) (hv:val 18446744073709551616 l=x) (hx:x < 18446744073709551616 ^ n):l.length≤n:=hc.length_le (by omega) (by rw[hv];exact hx)
theorem l_divide_long (ao bo:Option Addr) (n c m d:Nat) (l l':List Nat) (w:World) (hs:Sl .u64 w ao n c l) (hs':Sl .u64 w bo m d l') (hd:bi 18446744073709551616 l) (hd':bi 18446744073709551616 l')
  (hn:n≤1099511627774) (hm2:2≤m) (hge:val 18446744073709551616 l'≤val 18446744073709551616 l):
  Calls Tryz.prog 79 #[.slice ao n c,.slice bo m d] w (pu .u64 18446744073709551616 w (val 18446744073709551616 l / val 18446744073709551616 l') (val 18446744073709551616 l % val 18446744073709551616 l')):=by
 have hcmp:=mj ao bo n c m d l l' w hs hs' hd hd'
 have hord:=ub hge
 have HC:=Lib.hid hcmp
 have hmn:m≤n:=by have:=hd'.length_le_of (by omega) hd hge;rw[hs.len,hs'.len] at this;exact this
 have htop:0 < l'[m - 1]?.getD 0:=by
  have h1:=hd'.2 (by rw[hs'.len];omega)
  rw[hs'.len] at h1
  omega
 have htopB:=hd'.1.get (by omega) (m - 1)
 obtain⟨s,hs63,hbl,hY0,hY1⟩:=shift_of htop htopB
 obtain⟨b1,o1,rfl,hcell⟩:=hs'.at (i:=m - 1) (by omega)
 generalize l'[m - 1]?.getD 0=top at *
 have hbpos:=hd'.pos (by omega) (by rw[hs'.len];omega)
 have hble:=hd'.ge (by rw[hs'.len];omega)
 rw[hs'.len] at hble
 have halt:=gp (by omega) hd.1
 have hblt:=gp (by omega) hd'.1
 rw[hs.len] at halt
 rw[hs'.len] at hblt
 have HBL:=Lib.hid hbl
 have HS:=Lib.hid hs
 have HS':=Lib.hid hs'
 have HD:=Lib.hid hd
 have HD':=Lib.hid hd'
 have hm1':((m:Int) == 1)=false:=by rw[beq_eq_false_iff_ne];omega
 generalize hA:val 18446744073709551616 l=A at *
 generalize hB:val 18446744073709551616 l'=B at *
 have hsB:2 ^ s≤9223372036854775808:=by
  have:2 ^ s≤2 ^ 63:=Nat.pow_le_pow_right (by omega) hs63
  exact this
 have hp0:=Nat.pow_pos (n:=s) (show 0 < 2 by omega)
 have HA:=Lib.hid hA
 have HBv:=Lib.hid hB
 have HALT:=Lib.hid halt
 have HBLT:=Lib.hid hblt
 have HBLE:=Lib.hid hble
 have hi1:(0:Int)≤(m:Int) - 1:=by omega
 have hi2:(m:Int) - 1 < (m:Int):=by omega
 clear hs hs' hd hd' hcmp hbl hA hB halt hblt hble hY0 hY1
 obtain⟨i0,hi,hz0,hz1,hz2⟩:=info_parts kh
 go_enter Tryz.func79,Tryz.ntmps79
 go_wp2_with fail
 refine (HC.out).mono ?_
 rintro e w' ⟨q,rfl,rfl⟩
 go_wp2_with fail
 refine (Tryz.bits_LeadingZeros64 (top:Int) _ (by omega) (by omega)).mono ?_
 rintro e w' ⟨rfl,rfl⟩
 rw[Int.toNat_natCast,HBL.out]
 have hbw:=it (Below.refl w.heap.size w) q
 generalize w.drewN q=w1 at *
 have HBW:=Lib.hid hbw
 clear hbw
 go_wp2_with fail
 refine (wd _ _ _ _ s _ (HS'.out.mono HBW.out) HD'.out (by omega) (by omega)).mono ?_
 rintro e w2 ⟨_,rfl,⟨vo,nv,cv,lv,rfl,hsv,hcv,hvv⟩,hb2⟩
 rw[HBv.out] at hvv
 have HSV:=Lib.hid hsv
 have HCV:=Lib.hid hcv
 have HVV:=Lib.hid hvv
 have HB2:=Lib.hid (HBW.out.trans (hb2.mono HBW.out.size))
 have hnv:nv≤m + 1:=by
  rw[←hsv.len]
  refine canon_len hcv hvv ?_
  rw[Nat.pow_succ]
  exact Nat.mul_lt_mul_of_lt_of_le HBLT.out (by omega) (by omega)
 have hnv2:2≤nv:=by
  rcases Nat.lt_or_ge nv 2 with h|h
  ·exfalso
   have h1:=gp (by omega) hcv.1
   rw[hvv,hsv.len] at h1
   have h2:18446744073709551616 ^ nv≤18446744073709551616 ^ (m - 1):=Nat.pow_le_pow_right (by omega) (by omega)
   have h3:B * 1≤B * 2 ^ s:=Nat.mul_le_mul_left _ hp0
   have:=HBLE.out
   omega
  ·exact h
 clear hsv hcv hvv hb2
 go_wp2_with fail
 have hbe:=(Below.refl w2.heap.size w2).alloc (Nat.le_refl _) (.cells #[] 108)
 have hblk0:Blk .u64 108 (w2.alloc (.cells #[] 108)) w2.heap.size []:=Blk.new .u64 108 w2 []
 refine (wd _ _ _ _ s _ ((HS.out.mono HB2.out).mono hbe) HD.out (by omega) (by omega)).mono ?_
 rintro e w3 ⟨_,rfl,⟨uo,nu,cu,ll,rfl,hsu,hcu,hvu⟩,hb3⟩
 rw[HA.out] at hvu
 have hnu:nu≤n + 1:=by
  rw[←hsu.len]
  refine canon_len hcu hvu ?_
  rw[Nat.pow_succ]
  exact Nat.mul_lt_mul_of_lt_of_le HALT.out (by omega) (by omega)
 have hnvu:nv≤nu:=by
  have:=HCV.out.length_le_of (by omega) hcu (by rw[HVV.out,hvu];exact Nat.mul_le_mul_right _ hge)
  rw[HSV.out.len,hsu.len] at this
  exact this
 obtain⟨bu,ou,rfl,_⟩:=hsu.at (i:=0) (by omega)
 have hblk3:=(hblk0.below hb3).owns (by simp)
 have hbe3:Below w2.heap.size w2 w3:=hbe.trans (hb3.mono (by simp))
 have HOWN:=Lib.hid hblk3
 have HNEWS:=Lib.hid (hsu.news' (Below.refl _ _))
 have HLL:=Lib.hid hsu.len
 have HCU:=Lib.hid hcu
 have HVU:=Lib.hid hvu
 have HBE3:=Lib.hid hbe3
 clear hsu hcu hvu hb3 hbe hblk0 hblk3 hbe3
 have hsz3:=HBE3.out.size
 go_wp2_with (at_builtin;refine wpList_append_own _ rfl _ _ 33 rfl w2.heap.size 108 i0 (.int .u64 0) 1 8 Tryz.underlying33 hi hz0 hz1 hz2 rfl (by decide) _ _ _ rfl HOWN.out ⟨bu,ou,none⟩ nu cu (ll.map fun x:Nat=>Value.int .u64 (x:Int)) rfl ?d1 HNEWS.out ?d5 ?d2 ?d3 ?d4 ?_)
 case d1=>rw[List.length_map,HLL.out,Nat.mul_one]
 case d5=>exact zh _ _
 case d2=>unfold maxLen;simp;omega
 case d3=>simp;omega
 case d4=>exact hsz3
 intro v4 w4 hown4 hgrow4 hnil4
 have hown4:w4.ownsRow w2.heap.size 108 1 v4 nu (ll.map fun x:Nat=>Value.int .u64 (x:Int)):=by simpa using hown4
 have hbe4:Below w2.heap.size w2 w4:=HBE3.out.grown hgrow4 hsz3 (fun k hk=>by cases hk;exact Nat.le_refl _)
 obtain⟨g4,c4,r4,rfl,hg4,hblk4,hc4,hcm4,_⟩:=iz.of_owns hown4 (.inr (by omega))
 have HOWN4:=Lib.hid (hown4.alloc (.cells #[.int .u64 0] 108))
 have HBE4:=Lib.hid hbe4
 have hsz4:=hbe4.size
 have hnews:∀j u,[Value.int .u64 (0:Int)][j]?=some u→(w4.alloc (.cells #[.int .u64 0] 108)).cell? ((⟨w4.heap.size,0,none⟩:Addr).add j)=some u:=by
  intro j u hu
  rw[iy,World.cell?_alloc_at _ _ _ _ rfl]
  match j with
  | 0=>simpa using hu
  | j + 1=>simp at hu
 have HNEWS4:=Lib.hid hnews
 clear hnews hown4 hgrow4 hnil4 hbe4 hblk4
 go_wp2_with (at_builtin;refine wpList_append_own _ rfl _ _ 33 rfl w2.heap.size 108 i0 (.int .u64 0) 1 8 Tryz.underlying33 hi hz0 hz1 hz2 rfl (by decide) _ _ _ rfl HOWN4.out ⟨w4.heap.size,0,none⟩ 1 1 [.int .u64 (0:Int)] rfl ?e1 HNEWS4.out ?e5 ?e2 ?e3 ?e4 ?_)
 case e1=>rfl
 case e5=>intro u hu;simp at hu;subst hu;rfl
 case e2=>unfold maxLen;omega
 case e3=>omega
 case e4=>simp;omega
 intro v5 w5 hown5 hgrow5 hnil5
 have hown5:w5.ownsRow w2.heap.size 108 1 v5 (nu + 1) ((ll ++ [0]).map fun x:Nat=>Value.int .u64 (x:Int)):=by simpa using hown5
 have hbe5:Below w2.heap.size w2 w5:=(HBE4.out.alloc hsz4 _).grown hgrow5 (by simp;omega) (fun k hk=>by cases hk;exact hg4)
 obtain⟨g,cg,r,rfl,hg,hblk5,hcg,hcgm,_⟩:=iz.of_owns hown5 (.inr (by omega))
 have HBLK5:=Lib.hid hblk5
 have HBE5:=Lib.hid hbe5
 have hgl:=hblk5.lt
 have hsz5:=hbe5.size
 clear hown5 hgrow5 hnil5 hbe5 hblk5 HOWN HNEWS HOWN4 HNEWS4 HBE3 HBE4 HC
 have hsw2:=HB2.out.size
 go_wp2_with (at_make;refine co _ rfl _ _ 33 rfl 108 i0 .u64 Tryz.underlying33 hi hz0 hz1 _ _ _ _ (nu + 1 - nv) (nu + 1 - nv) rfl rfl ?f1 ?f2 (Nat.le_refl _) ?f3 ?f4 ?_)
 case f1=>omega
 case f2=>omega
 case f3=>rw[hz2];omega
 case f4=>omega
 have hawg:ry g (.slice vo nv cv):=HSV.out.away g hg
 have hawq:ry w5.heap.size (.slice vo nv cv):=HSV.out.away _ hsz5
 have HAWG:=Lib.hid hawg
 have HAWQ:=Lib.hid hawq
 clear hawg hawq
 have hVpos:0 < val 18446744073709551616 lv:=by rw[HVV.out];exact Nat.mul_pos hbpos hp0
 have hVlt:val 18446744073709551616 lv < 18446744073709551616 ^ nv:=by have:=gp (by omega) HCV.out.1;rw[HSV.out.len] at this;exact this
 have hvtop:0 < lv[nv - 1]?.getD 0:=by
  have h1:=HCV.out.2 (by rw[HSV.out.len];omega)
  rw[HSV.out.len] at h1
  omega
 have HVPOS:=Lib.hid hVpos
 have HVLT:=Lib.hid hVlt
 have HVTOP:=Lib.hid hvtop
 have hstart:=long_start (by omega) HCU.out.1 HSV.out.len HCV.out (by omega) (by rw[HLL.out];exact hnvu)
 rw[HLL.out] at hstart
 have HSTART:=Lib.hid hstart
 clear hstart hVpos hVlt hvtop
 go_loopw [13] (fun iv wr=>∃(k:Nat) (L ql:List Nat),k≤nu + 1 - nv∧iv=.int .i64 ((k:Int) - 1)∧iz .u64 108 wr g L r∧L.length=nu + 1∧cj 18446744073709551616 L∧
   Blk .u64 108 wr w5.heap.size ql∧ql.length=nu + 1 - nv∧cj 18446744073709551616 ql∧val 18446744073709551616 L + val 18446744073709551616 (ql.drop k) * val 18446744073709551616 lv * 18446744073709551616 ^ k=A * 2 ^ s∧
   val 18446744073709551616 (L.drop k) < val 18446744073709551616 lv∧Sl .u64 wr vo nv cv lv∧Below w.heap.size w wr) (fun iv _=>(intOf iv + 1).toNat)
 case atStart=>
  have hbw:Below w5.heap.size w5 (w5.alloc (.cells (U .u64 (List.replicate (nu + 1 - nv) 0)) 108)):=(Below.refl _ _).alloc (Nat.le_refl _) _
  refine⟨nu + 1 - nv,ll ++ [0],_,Nat.le_refl _,(by first|rfl|(congr 1;omega)),HBLK5.out.below hbw,by simp[HLL.out],HCU.out.1.append (by intro x hx;simp at hx;omega),Blk.new .u64 _ w5 _,by simp,cj.zeros (by omega) _,?_,HSTART.out,?_,?_⟩
  ·rw[List.drop_of_length_le (by simp),il,ns,Nat.mul_zero,Nat.add_zero,HVU.out]
   simp[val]
  ·exact (HSV.out.mono (HBE5.out.mono (Nat.le_refl _))).mono hbw
  ·exact (HB2.out.trans (HBE5.out.mono hsw2)).trans (hbw.mono (by omega))
 case round=>
  obtain⟨k,L,ql,hk,rfl,hbL,hLl,hLd,hbq,hql,hqd,hval,hltV,hsv,hbel⟩:=hrel
  have HBL2:=Lib.hid hbL
  have HLL2:=Lib.hid hLl
  have HLD:=Lib.hid hLd
  have HBQ:=Lib.hid hbq
  have HQL:=Lib.hid hql
  have HQD:=Lib.hid hqd
  have HVAL:=Lib.hid hval
  have HLTV:=Lib.hid hltV
  have HSV2:=Lib.hid hsv
  have HBEL:=Lib.hid hbel
  clear hbL hLl hLd hbq hql hqd hval hltV hsv hbel HSV HBE5 HSTART HBLK5
  cases k with
  | zero=>
   rw[show ((0:Nat):Int) - 1= -1 from rfl]
   have hv:=HVAL.out
   rw[List.drop_zero,Nat.pow_zero,Nat.mul_one,Nat.add_comm] at hv
   have hl:=HLTV.out
   rw[List.drop_zero] at hl
   have hfin:=nf hv hl
   rw[HVV.out,Nat.mul_div_mul_right _ _ hp0,Nat.mul_mod_mul_right] at hfin
   have HFIN:=Lib.hid hfin
   clear hv hl hfin
   have hslq:=HBQ.out.sl (by have:=HQL.out;omega)
   rw[HQL.out] at hslq
   have hslu:=iz.sl (A:=[]) (C:=[]) (o:=L) (by have:=HBL2.out;simpa using this) cg (by rw[HLL2.out];exact hcg) hcgm
   rw[HLL2.out] at hslu
   have HSLQ:=Lib.hid hslq
   have HSLU:=Lib.hid hslu
   clear hslq hslu
   go_wp2_with fail
   refine (gw _ _ _ ql _ HSLQ.out HQD.out).mono ?_
   rintro e w' ⟨j1,hj1,hcj1,hvj1,rfl,rfl⟩
   go_wp2_with fail
   refine (gw _ _ _ L _ HSLU.out HLD.out).mono ?_
   rintro e w' ⟨j2,hj2,hcj2,hvj2,rfl,rfl⟩
   go_wp2_with fail
   refine (l_right_calls _ _ _ _ s _ (HSLU.out.take j2 hj2) hcj2.1 (by omega) (by omega)).mono ?_
   rintro e w6 ⟨v6,rfl,hv6,hb6⟩
   rw[hvj2,HFIN.out.2,Nat.mul_div_cancel _ hp0] at hv6
   have HV6:=Lib.hid hv6
   have HB6:=Lib.hid hb6
   have HVJ1:=Lib.hid hvj1
   have HCJ1:=Lib.hid hcj1
   clear hv6 hb6 hvj1 hcj1 hvj2 hcj2
   go_wp2
   go_ret2
   refine⟨_,_,rfl,ck.mono ⟨_,_,_,_,rfl,HSLQ.out.take j1 hj1,HCJ1.out,?_⟩ HB6.out,HV6.out,HBEL.out.trans (HB6.out.mono HBEL.out.size)⟩
   rw[HVJ1.out,HFIN.out.1]
  | succ k=>
   rw[show ((k + 1:Nat):Int) - 1=(k:Int) from by omega]
   have hpv:=part_val (by omega) (n:=nv) HLD.out (show k < L.length by rw[HLL2.out];omega) (Nat.le_of_lt HVLT.out) HLTV.out
   have hlen:(L.take k).length=k:=by rw[List.length_take,HLL2.out];omega
   have hol:((L.drop k).take (nv + 1)).length=nv + 1:=by rw[List.length_take,List.length_drop,HLL2.out];omega
   have hb3:=HBL2.out
   rw[parts3 L k (nv + 1)] at hb3
   have hcall:=l_digit_calls g nv (cg - k) cv vo (L.take k) ((L.drop k).take (nv + 1)) (L.drop (k + (nv + 1))) lv r wr hb3 hol ((HLD.out.drop k).take _) (by omega) (by omega) HSV2.out HCV.out.1 HAWG.out hnv2 (by omega) HVTOP.out (by rw[hpv.1];exact hpv.2.1)
   rw[hlen] at hcall
   have HCALL:=Lib.hid hcall
   have HPV:=Lib.hid hpv
   have hle1:(k:Int) + (nv:Int) + 1≤(cg:Int):=by omega
   clear hpv hol hb3 hcall
   have hgne:g≠w5.heap.size:=by omega
   go_wp2_with fail
   rw[show k + nv + 1 - k=nv + 1 from by omega]
   refine (HCALL.out).mono ?_
   rintro e w6 ⟨ol',rfl,hl',hd',hv',hb',ho'⟩
   rw[HPV.out.1] at hv' ⊢
   have hbq6:=HBQ.out.only ho' (by omega)
   have hc6:=hbq6.cell (j:=k) (by rw[HQL.out];omega)
   have hf6:=hbq6.free k
   have hstep:=long_step L ql ol' k nv (val 18446744073709551616 lv) (A * 2 ^ s) (by rw[HLL2.out];omega) (by rw[HQL.out];omega) HPV.out.2.2 HPV.out.1 hv' HVPOS.out HVAL.out
   have hqB:val 18446744073709551616 (L.drop k) / val 18446744073709551616 lv < 18446744073709551616:=by rw[Nat.div_lt_iff_lt_mul HVPOS.out];exact HPV.out.2.1
   generalize val 18446744073709551616 (L.drop k) / val 18446744073709551616 lv=Q at *
   have hbq7:=hbq6.set k Q
   have hset:Only w5.heap.size w6 (w6.setCell ⟨w5.heap.size,k,none⟩ (.int .u64 (Q:Int))):=(Only.refl _ _).setCell _ _
   have hbl7:=hb'.only hset hgne
   have hsv7:=((HSV2.out.only HAWG.out ho')).only HAWQ.out hset
   have hbe7:Below w.heap.size w (w6.setCell ⟨w5.heap.size,k,none⟩ (.int .u64 (Q:Int))):=(HBEL.out.trans (ho'.below (by omega) HBEL.out.size)).setCell (by show w.heap.size≤w5.heap.size;omega) _
   have hL7:(L.take k ++ ol' ++ L.drop (k + (nv + 1))).length=nu + 1:=by
    rw[List.length_append,List.length_append,hlen,hl',List.length_drop,HLL2.out];omega
   have hD7:cj 18446744073709551616 (L.take k ++ ol' ++ L.drop (k + (nv + 1))):=((HLD.out.take k).append hd').append (HLD.out.drop _)
   have HREL:=Lib.hid (show ∃(k':Nat) (L ql:List Nat),k'≤nu + 1 - nv∧Value.int .i64 ((k:Int) - 1)=.int .i64 ((k':Int) - 1)∧iz .u64 108 (w6.setCell ⟨w5.heap.size,k,none⟩ (.int .u64 (Q:Int))) g L r∧L.length=nu + 1∧cj 18446744073709551616 L∧
    Blk .u64 108 (w6.setCell ⟨w5.heap.size,k,none⟩ (.int .u64 (Q:Int))) w5.heap.size ql∧ql.length=nu + 1 - nv∧cj 18446744073709551616 ql∧val 18446744073709551616 L + val 18446744073709551616 (ql.drop k') * val 18446744073709551616 lv * 18446744073709551616 ^ k'=A * 2 ^ s∧
    val 18446744073709551616 (L.drop k') < val 18446744073709551616 lv∧Sl .u64 (w6.setCell ⟨w5.heap.size,k,none⟩ (.int .u64 (Q:Int))) vo nv cv lv∧Below w.heap.size w (w6.setCell ⟨w5.heap.size,k,none⟩ (.int .u64 (Q:Int))) from
    ⟨k,_,_,by omega,rfl,hbl7,hL7,hD7,hbq7,by rw[List.length_set];exact HQL.out,HQD.out.set _ _ hqB,hstep.1,hstep.2,hsv7,hbe7⟩)
   clear hl' hd' hv' hb' ho' hbq6 hstep hbq7 hset hbl7 hsv7 hbe7 hL7 hD7
   go_wp2
   go_roundw
   case rel=>exact HREL.out
   all_goals first|(simp[intOf];done)|(simp[intOf];omega)
theorem ot (ao bo:Option Addr) (n c m d:Nat) (l l':List Nat) (w:World) (hs:Sl .u64 w ao n c l) (hs':Sl .u64 w bo m d l') (hd:bi 18446744073709551616 l) (hd':bi 18446744073709551616 l')
  (hn:n≤1099511627774) (h0:0 < val 18446744073709551616 l'):
  Calls Tryz.prog 79 #[.slice ao n c,.slice bo m d] w (pu .u64 18446744073709551616 w (val 18446744073709551616 l / val 18446744073709551616 l') (val 18446744073709551616 l % val 18446744073709551616 l')):=by
 by_cases h:val 18446744073709551616 l < val 18446744073709551616 l'
 ·exact l_divide_less _ _ _ _ _ _ _ _ _ hs hs' hd hd' h
 ·by_cases h1:m=1
  ·subst h1
   exact l_divide_one _ _ _ _ _ _ _ _ hs hs' hd hd' (by omega) (by omega)
  ·have:0 < m:=by rw[←hs'.len];exact (hd'.length_pos_iff (by omega)).2 h0
   exact l_divide_long _ _ _ _ _ _ _ _ _ hs hs' hd hd' hn (by omega) (by omega)
end Go.Proofs.YtbnomdlojmgigaaGreat
namespace Go.Proofs.YtbnomdlojmgigaaGreat
open Go.RowKit Dg
theorem l_small_calls (ao bo:Option Addr) (n c d:Nat) (l l':List Nat) (w:World) (hs:Sl .u64 w ao n c l) (hs':Sl .u64 w bo 1 d l') (hd:bi 18446744073709551616 l) (hd':bi 18446744073709551616 l') (hn:n≤1):
  Calls Tryz.prog 114 #[.slice ao n c,.slice bo 1 d] w fun e w'=>e=.returned (.int .u64 ((Nat.gcd (val 18446744073709551616 l) (val 18446744073709551616 l'):Nat):Int))∧∃q,w'=w.drewN q:=by
 obtain⟨y,rfl⟩:=List.length_eq_one_iff.1 hs'.len
 rw[ns] at *
 have hyB:y < 18446744073709551616:=hd'.1 y (by simp)
 obtain⟨b1,o1,rfl,hcell⟩:=hs'.at (i:=0) (by omega)
 simp only[Nat.add_zero,List.getElem?_cons_zero,Option.getD_some] at hcell
 generalize hG:Nat.gcd (val 18446744073709551616 l) y=G
 rcases Nat.lt_or_ge 0 n with h|h
 ·obtain rfl:n=1:=by omega
  obtain⟨x,rfl⟩:=List.length_eq_one_iff.1 hs.len
  rw[ns] at *
  have hxB:x < 18446744073709551616:=hd.1 x (by simp)
  obtain⟨b2,o2,rfl,hcell2⟩:=hs.at (i:=0) (by omega)
  simp only[Nat.add_zero,List.getElem?_cons_zero,Option.getD_some] at hcell2
  have HG:=Lib.hid hG
  clear hs hs' hd hd' hG hn
  go_enter Tryz.func114,Tryz.ntmps114
  go_wp2
  go_loopg [5,6] y (fun k xv yv wr=>∃(x y q:Nat),y≤k∧xv=.int .u64 x∧yv=.int .u64 y∧x < 18446744073709551616∧y < 18446744073709551616∧Nat.gcd x y=G∧wr=w.drewN q)
  case atStart=>exact⟨x,y,0,Nat.le_refl _,rfl,rfl,hxB,hyB,HG.out,rfl⟩
  case round=>
   obtain⟨x,y,q,hyk,rfl,rfl,hx,hy,hg,rfl⟩:=hrel
   have HGG:=Lib.hid hg
   clear hg HG hxB hyB
   by_cases h0:y=0
   ·subst h0
    have hg:=HGG.out
    rw[Nat.gcd_zero_right] at hg
    subst hg
    go_wp2
    go_ret
    exact⟨rfl,q,rfl⟩
   ·have hlt:=Nat.mod_lt x (show 0 < y by omega)
    have hy0:¬ (y:Int)=0:=by omega
    have hy1:0 < (y:Int):=by omega
    go_wp2
    go_quiet (fail)
    go_wp2
    go_roundg (x % y)
    case measure=>omega
    case rel=>
     refine⟨y,x % y,_,Nat.le_refl _,rfl,by simp,hy,by omega,?_,World.drewN_drewN ..⟩
     rw[←HGG.out,Nat.gcd_comm x y,Nat.gcd_rec y x,Nat.gcd_comm]
 ·obtain rfl:n=0:=by omega
  obtain rfl:=List.length_eq_zero_iff.1 hs.len
  have HG:=Lib.hid hG
  clear hs hs' hd hd' hG hn
  go_enter Tryz.func114,Tryz.ntmps114
  go_wp2
  go_loopg [5,6] y (fun k xv yv wr=>∃(x y q:Nat),y≤k∧xv=.int .u64 x∧yv=.int .u64 y∧x < 18446744073709551616∧y < 18446744073709551616∧Nat.gcd x y=G∧wr=w.drewN q)
  case atStart=>exact⟨0,y,0,Nat.le_refl _,rfl,rfl,by omega,hyB,HG.out,rfl⟩
  case round=>
   obtain⟨x,y,q,hyk,rfl,rfl,hx,hy,hg,rfl⟩:=hrel
   have HGG:=Lib.hid hg
   clear hg HG hyB
   by_cases h0:y=0
   ·subst h0
    have hg:=HGG.out
    rw[Nat.gcd_zero_right] at hg
    subst hg
    go_wp2
    go_ret
    exact⟨rfl,q,rfl⟩
   ·have hlt:=Nat.mod_lt x (show 0 < y by omega)
    have hy0:¬ (y:Int)=0:=by omega
    have hy1:0 < (y:Int):=by omega
    go_wp2
    go_quiet (fail)
    go_wp2
    go_roundg (x % y)
    case measure=>omega
    case rel=>
     refine⟨y,x % y,_,Nat.le_refl _,rfl,by simp,hy,by omega,?_,World.drewN_drewN ..⟩
     rw[←HGG.out,Nat.gcd_comm x y,Nat.gcd_rec y x,Nat.gcd_comm]
theorem l_gcd_calls (ao bo:Option Addr) (n c m d:Nat) (l l':List Nat) (w:World) (hs:Sl .u64 w ao n c l) (hs':Sl .u64 w bo m d l') (hd:bi 18446744073709551616 l) (hd':bi 18446744073709551616 l')
  (hn:n≤1099511627774) (hm:m≤1099511627774):
  Calls Tryz.prog 77 #[.slice ao n c,.slice bo m d] w (RetL w (Nat.gcd (val 18446744073709551616 l) (val 18446744073709551616 l'))):=by
 have ha:uw .u64 18446744073709551616 1099511627774 w (.slice ao n c) (val 18446744073709551616 l):=⟨_,_,_,_,rfl,hs,hd,rfl,hn⟩
 have hb:uw .u64 18446744073709551616 1099511627774 w (.slice bo m d) (val 18446744073709551616 l'):=⟨_,_,_,_,rfl,hs',hd',rfl,hm⟩
 clear hs hs' hd hd' hn hm
 generalize hG:Nat.gcd (val 18446744073709551616 l) (val 18446744073709551616 l')=G
 generalize val 18446744073709551616 l=A at *
 generalize val 18446744073709551616 l'=C at *
 have HA:=Lib.hid ha
 have HB:=Lib.hid hb
 have HG:=Lib.hid hG
 clear ha hb hG
 go_enter Tryz.func77,Tryz.ntmps77
 go_wp2
 go_loopg [0,1] C (fun k av bv wr=>∃(x y:Nat),y≤k∧Nat.gcd x y=G∧uw .u64 18446744073709551616 1099511627774 wr av x∧uw .u64 18446744073709551616 1099511627774 wr bv y∧Below w.heap.size w wr)
 case atStart=>exact⟨A,C,Nat.le_refl _,HG.out,HA.out,HB.out,Below.refl _ _⟩
 case round=>
  obtain⟨x,y,hyk,hg,⟨a1,n1,c1,l1,rfl,hs1,hc1,hv1,hn1⟩,⟨a2,n2,c2,l2,rfl,hs2,hc2,hv2,hn2⟩,hbel⟩:=hrel
  have HS1:=Lib.hid hs1
  have HS2:=Lib.hid hs2
  have HC1:=Lib.hid hc1
  have HC2:=Lib.hid hc2
  have HV1:=Lib.hid hv1
  have HV2:=Lib.hid hv2
  have HBE:=Lib.hid hbel
  have HGG:=Lib.hid hg
  clear hs1 hs2 hc1 hc2 hv1 hv2 hbel hg
  by_cases h0:n2=0
  ·subst h0
   go_wp2
   go_ret
   have:l2=[]:=List.length_eq_zero_iff.1 HS2.out.len
   have h2:=HV2.out
   rw[this] at h2
   refine⟨_,rfl,⟨_,_,_,_,rfl,HS1.out,HC1.out,?_⟩,HBE.out⟩
   rw[HV1.out,←HGG.out,←h2]
   simp[val]
  ·have hpos:0 < y:=by have:=HC2.out.pos (by omega) (by rw[HS2.out.len];omega);rw[HV2.out] at this;exact this
   have hlt:=Nat.mod_lt x hpos
   by_cases hsm:n1≤1∧n2≤1
   ·obtain rfl:n2=1:=by omega
    have h1:(n1:Int)≤1:=by omega
    go_wp2_with fail
    refine (l_small_calls _ _ _ _ _ _ _ _ HS1.out HS2.out HC1.out HC2.out hsm.1).mono ?_
    rintro e w1 ⟨rfl,q,rfl⟩
    have hgl:Nat.gcd (val 18446744073709551616 l1) (val 18446744073709551616 l2) < 18446744073709551616:=by
     have h2:=gp (by omega) HC2.out.1
     rw[HS2.out.len,Nat.pow_one] at h2
     have h3:=Nat.gcd_le_right (val 18446744073709551616 l1) (n:=val 18446744073709551616 l2) (by rw[HV2.out];exact hpos)
     omega
    go_wp2_with fail
    refine (qx _ _ hgl).mono ?_
    rintro e w2 ⟨v,rfl,hv,hb⟩
    rw[HV1.out,HV2.out,HGG.out] at hv
    have HV:=Lib.hid hv
    have HB2:=Lib.hid hb
    clear hv hb hgl
    go_wp2
    go_ret
    exact⟨_,rfl,HV.out,(it HBE.out q).trans (HB2.out.mono (it HBE.out q).size)⟩
   ·by_cases h1:n1≤1
    ·have h1':(n1:Int)≤1:=by omega
     have h2':¬ (n2:Int)≤1:=by omega
     skip
     go_wp2_with fail
     refine (ot _ _ _ _ _ _ _ _ _ HS1.out HS2.out HC1.out HC2.out hn1 (by rw[HV2.out];exact hpos)).mono ?_
     rintro e w1 ⟨v1,v2,rfl,⟨a4,n4,c4,l4,rfl,_⟩,⟨a3,n3,c3,l3,rfl,hs3,hc3,hv3⟩,hb⟩
     rw[HV1.out,HV2.out] at hv3
     have hn3:n3≤1099511627774:=by
      have:=hc3.length_le_of (by omega) HC2.out (by rw[hv3,HV2.out];omega)
      rw[hs3.len,HS2.out.len] at this
      omega
     have HS3:=Lib.hid hs3
     have HC3:=Lib.hid hc3
     have HV3:=Lib.hid hv3
     have HB3:=Lib.hid hb
     clear hs3 hc3 hv3 hb
     go_wp2
     go_roundg (x % y)
     case measure=>omega
     case rel=>
      refine⟨y,x % y,Nat.le_refl _,?_,⟨_,_,_,_,rfl,HS2.out.mono HB3.out,HC2.out,HV2.out,hn2⟩,⟨_,_,_,_,rfl,HS3.out,HC3.out,HV3.out,hn3⟩,HBE.out.trans (HB3.out.mono HBE.out.size)⟩
      rw[←HGG.out,Nat.gcd_comm x y,Nat.gcd_rec y x,Nat.gcd_comm]
    ·have h1':¬ (n1:Int)≤1:=by omega
     skip
     go_wp2_with fail
     refine (ot _ _ _ _ _ _ _ _ _ HS1.out HS2.out HC1.out HC2.out hn1 (by rw[HV2.out];exact hpos)).mono ?_
     rintro e w1 ⟨v1,v2,rfl,⟨a4,n4,c4,l4,rfl,_⟩,⟨a3,n3,c3,l3,rfl,hs3,hc3,hv3⟩,hb⟩
     rw[HV1.out,HV2.out] at hv3
     have hn3:n3≤1099511627774:=by
      have:=hc3.length_le_of (by omega) HC2.out (by rw[hv3,HV2.out];omega)
      rw[hs3.len,HS2.out.len] at this
      omega
     have HS3:=Lib.hid hs3
     have HC3:=Lib.hid hc3
     have HV3:=Lib.hid hv3
     have HB3:=Lib.hid hb
     clear hs3 hc3 hv3 hb
     go_wp2
     go_roundg (x % y)
     case measure=>omega
     case rel=>
      refine⟨y,x % y,Nat.le_refl _,?_,⟨_,_,_,_,rfl,HS2.out.mono HB3.out,HC2.out,HV2.out,hn2⟩,⟨_,_,_,_,rfl,HS3.out,HC3.out,HV3.out,hn3⟩,HBE.out.trans (HB3.out.mono HBE.out.size)⟩
      rw[←HGG.out,Nat.gcd_comm x y,Nat.gcd_rec y x,Nat.gcd_comm]
end Go.Proofs.YtbnomdlojmgigaaGreat
