/-
  The contracts of the program's naturals (words of 64 bits), first part: cut, word, isOne, cmp, plus, minus.
-/
import Derived.Test.YtidmjdmmpajooaaGreatPkV3N
import Derived.Test.YtidmjdmmpajooaaGreatShelf
import Derived.Deep.LoopGhost
import Derived.Shelf.Spec.BitsCarry
set_option linter.unusedSimpArgs false
set_option linter.unusedVariables false
set_option maxRecDepth 100000
set_option maxHeartbeats 2000000
namespace Go.Proofs.YtidmjdmmpajooaaGreat
open Go.RowKit Dg
theorem kh:(Tryz.prog.info? 95).map (fun i=>(i.zero,i.size,i.bytes))=some (some (.int .u64 0),1,8):=by kernel_rfl
def bitsRen:Go.Shelf.Ren:=⟨fun|25=>72|26=>77|n=>n,fun|22=>95|n=>n,fun|n=>n⟩
theorem lays25:Lays7.n25 Tryz.prog bitsRen:={mixed:=by kernel_rfl,f25:=Tryz.func72.trans (congrArg some (by kernel_rfl)),t22:=Tryz.underlying95,a22:=Tryz.isAgg95,z22:=Tryz.sizeOf95,v22:=Tryz.zeroValue95,i22:=by kernel_rfl}
theorem lays26:Lays7.n26 Tryz.prog bitsRen:={mixed:=by kernel_rfl,f26:=Tryz.func77.trans (congrArg some (by kernel_rfl)),t22:=Tryz.underlying95,a22:=Tryz.isAgg95,z22:=Tryz.sizeOf95,v22:=Tryz.zeroValue95,i22:=by kernel_rfl}
theorem add64 (x y c:Int) (hx:0≤x) (hy:0≤y) (hc0:0≤c) (hc:c≤1) (w:World):(callFunc 72 #[.int .u64 x,.int .u64 y,.int .u64 c]).run Tryz.prog w=
  .ok (.value (.tuple #[.int .u64 ((x + y + c) % 18446744073709551616),.int .u64 ((x + y + c) / 18446744073709551616)])) w:=by
 obtain⟨x,rfl⟩:=Int.eq_ofNat_of_zero_le hx
 obtain⟨y,rfl⟩:=Int.eq_ofNat_of_zero_le hy
 obtain⟨c,rfl⟩:=Int.eq_ofNat_of_zero_le hc0
 refine (Any7.bits_Add64 lays25 x y c (by omega) w).trans ?_
 congr 5<;>omega
def bor (x y b:Int):Int:=if x < y + b then 1 else 0
theorem sub64 (x y b:Int) (hx:0≤x) (hy:0≤y) (hy':y < 18446744073709551616) (hb0:0≤b) (hb:b≤1) (w:World):(callFunc 77 #[.int .u64 x,.int .u64 y,.int .u64 b]).run Tryz.prog w=
  .ok (.value (.tuple #[.int .u64 ((x - y - b) % 18446744073709551616),.int .u64 (bor x y b)])) w:=by
 obtain⟨x,rfl⟩:=Int.eq_ofNat_of_zero_le hx
 obtain⟨y,rfl⟩:=Int.eq_ofNat_of_zero_le hy
 obtain⟨b,rfl⟩:=Int.eq_ofNat_of_zero_le hb0
 have e1:(((x + 18446744073709551616 - y - b) % 18446744073709551616:Nat):Int)=((x:Int) - y - b) % 18446744073709551616:=by omega
 have e2:((if x < y + b then 1 else 0:Nat):Int)=bor x y b:=by unfold bor;split<;>split<;>omega
 rw[←e1,←e2]
 exact Any7.bits_Sub64 lays26 x y b (by omega) w
theorem uy (x y:Int) (hx:0≤x) (hy:0≤y) (w:World):(callFunc 72 #[.int .u64 x,.int .u64 y,.int .u64 0]).run Tryz.prog w=
  .ok (.value (.tuple #[.int .u64 ((x + y) % 18446744073709551616),.int .u64 ((x + y) / 18446744073709551616)])) w:=by
 simpa using add64 x y 0 hx hy (Int.le_refl 0) (by decide) w
def CutL (ao:Option Addr) (n c:Nat) (l:List Nat) (w:World) (e:Ending) (w':World):Prop:=
 ∃m,m≤n∧bi 18446744073709551616 (l.take m)∧val 18446744073709551616 (l.take m)=val 18446744073709551616 l∧e=.returned (.slice ao m c)∧w=w'
theorem gw (ao:Option Addr) (n c:Nat) (l:List Nat) (w:World) (hs:Sl .u64 w ao n c l) (hd:cj 18446744073709551616 l):
  Calls Tryz.prog 73 #[.slice ao n c] w (CutL ao n c l w):=by
 have hn:=hs.cap
 have hcM:=hs.max
 have HS:=Lib.hid hs;clear hs
 have HD:=Lib.hid hd;clear hd
 go_enter Tryz.func73,Tryz.ntmps73
 go_wp2
 go_loopg [0] n (fun g s wr=>∃k:Nat,k≤g∧k≤n∧(∀i,k≤i→l[i]?.getD 0=0)∧s=.slice ao k c∧wr=w)
 case atStart=>exact⟨n,Nat.le_refl _,by omega,by intro i hi;rw[List.getElem?_eq_none (by have:=HS.out.len;omega)];rfl,rfl,rfl⟩
 case round=>
  obtain⟨k,hkg,hk,hz,rfl,rfl⟩:=hrel
  have HZ:=Lib.hid hz;clear hz
  by_cases h0:k=0
  ·subst h0
   go_wp2
   go_ret
   exact⟨0,by omega,tw HD.out 0 (by omega) (by omega),jb2 _ _ _ HZ.out (by omega),rfl,rfl⟩
  ·obtain⟨j,rfl⟩:∃j,k=j + 1:=⟨k-1,by omega⟩
   obtain⟨b,o,rfl,hcell⟩:=HS.out.at (i:=j) (by omega)
   by_cases hd:l[j]?.getD 0=0
   ·rw[hd] at hcell
    go_wp2
    go_roundg (gk - 1)
    case measure=>omega
    case rel=>exact⟨j,by omega,by omega,by intro i hi;by_cases e:i=j;(· rw[e];exact hd);(· exact HZ.out i (by omega)),by simp,rfl⟩
   ·have hd':((l[j]?.getD 0:Nat):Int)≠0:=by omega
    go_wp2
    go_ret
    exact⟨j+1,by omega,tw HD.out _ (by have:=HS.out.len;omega) (by intro;simpa using hd),jb2 _ _ _ HZ.out (by have:=HS.out.len;omega),by simp,rfl⟩
def RetL (w:World) (x:Nat) (e:Ending) (w':World):Prop:=∃v,e=.returned v∧ck .u64 18446744073709551616 w' v x∧Below w.heap.size w w'
theorem qx (n:Nat) (w:World) (h1:n < 18446744073709551616):Calls Tryz.prog 74 #[.int .u64 (n:Int)] w (RetL w n):=by
 go_enter Tryz.func74,Tryz.ntmps74
 go_wp2_with fail
 have hb:Blk .u64 95 (w.alloc (Obj.cells #[Value.int IntKind.u64 ↑n] 95)) w.heap.size [n]:=Blk.new .u64 95 w [n]
 refine (gw _ 1 1 [n] _ (hb.sl (by simp)) ?_).mono ?_
 ·intro d hd;simp only[List.mem_cons,List.mem_nil_iff,or_false] at hd;omega
 rintro e w' ⟨m,hm,hc,hv,rfl,rfl⟩
 go_wp2
 go_ret
 refine⟨_,rfl,⟨_,_,_,_,rfl,(hb.sl (by simp)).take m hm,hc,?_⟩,(Below.refl _ _).alloc (Nat.le_refl _) _⟩
 rw[hv,ns]
theorem jf (v:Value) (x:Nat) (w:World) (h:ck .u64 18446744073709551616 w v x):Calls Tryz.prog 70 #[v] w fun e w'=>e=.returned (.bool (decide (x=1)))∧w=w':=by
 obtain⟨ao,n,c,l,rfl,hs,hc,rfl⟩:=h
 have hb:n≤9223372036854775807:=by have:=hs.cap;have:=hs.max;omega
 by_cases h1:n=1
 ·subst h1
  obtain⟨d,rfl⟩:=List.length_eq_one_iff.1 hs.len
  rw[ns]
  obtain⟨b,o,rfl,hcell⟩:=hs.at (i:=0) (by omega)
  simp only[Nat.add_zero,List.getElem?_cons_zero,Option.getD_some] at hcell
  clear hs hc
  by_cases hd:d=1
  ·subst hd
   go_enter Tryz.func70,Tryz.ntmps70
   go_wp2
   go_ret
   exact⟨rfl,rfl⟩
  ·have hd':((d:Int) == 1)=false:=by rw[beq_eq_false_iff_ne];omega
   rw[decide_eq_false hd]
   go_enter Tryz.func70,Tryz.ntmps70
   go_wp2
   go_ret
   exact⟨rfl,rfl⟩
 ·have h1':((n:Int) == 1)=false:=by rw[beq_eq_false_iff_ne];omega
  have hne:val 18446744073709551616 l≠1:=by
   intro e
   have:=hc.inj (by omega) (m:=[1]) ⟨by intro d hd;simp at hd;omega,by simp⟩ (by rw[e];rfl)
   have h2:=hs.len
   rw[this] at h2
   simp at h2
   omega
  rw[decide_eq_false hne]
  clear hs hc hne h1
  go_enter Tryz.func70,Tryz.ntmps70
  go_wp2
  go_ret
  exact⟨rfl,rfl⟩
theorem mj (ao bo:Option Addr) (n c m d:Nat) (l l':List Nat) (w:World) (hs:Sl .u64 w ao n c l) (hs':Sl .u64 w bo m d l') (hd:bi 18446744073709551616 l) (hd':bi 18446744073709551616 l'):
  Calls Tryz.prog 49 #[.slice ao n c,.slice bo m d] w (Quiet w (.int .i64 (gn (val 18446744073709551616 l) (val 18446744073709551616 l')))):=by
 have b1:n≤9223372036854775807:=by have:=hs.cap;have:=hs.max;omega
 have b2:m≤9223372036854775807:=by have:=hs'.cap;have:=hs'.max;omega
 have HS:=Lib.hid hs;clear hs
 have HS':=Lib.hid hs';clear hs'
 have HD:=Lib.hid hd;clear hd
 have HD':=Lib.hid hd';clear hd'
 rcases Nat.lt_trichotomy n m with h|h|h
 ·have h':¬ (n:Int)=m:=by omega
  have hfin:gn (val 18446744073709551616 l) (val 18446744073709551616 l')= -1:=by
   have:=HD.out.lt_of_length (by omega) HD'.out (by rw[HS.out.len,HS'.out.len];exact h)
   unfold gn;rw[if_pos this]
  rw[hfin];clear hfin
  go_enter Tryz.func49,Tryz.ntmps49
  go_wp2
  go_ret
  exact⟨0,rfl,rfl⟩
 ·subst h
  have Hr:∀r,r=gn (val 18446744073709551616 l) (val 18446744073709551616 l')→gn (val 18446744073709551616 l) (val 18446744073709551616 l')=r:=fun r h=>h.symm
  generalize hR:gn (val 18446744073709551616 l) (val 18446744073709551616 l')=R
  have HR:=Lib.hid hR;clear hR Hr
  go_enter Tryz.func49,Tryz.ntmps49
  go_wp2
  go_loopw [5] (fun iv wr=>∃k:Nat,k≤n∧iv=.int .i64 ((k:Int) - 1)∧l.drop k=l'.drop k∧∃q,wr=w.drewN q) (fun iv _=>(intOf iv + 1).toNat)
  case atStart=>exact⟨n,Nat.le_refl _,rfl,by rw[List.drop_of_length_le (by rw[HS.out.len];omega),List.drop_of_length_le (by rw[HS'.out.len];omega)],0,rfl⟩
  case round=>
   obtain⟨k,hk,rfl,hdrop,q,rfl⟩:=hrel
   have HDR:=Lib.hid hdrop;clear hdrop
   cases k with
   | zero=>
    rw[show ((0:Nat):Int) - 1= -1 from rfl]
    go_wp2
    go_ret
    refine⟨q,?_,rfl⟩
    have:=HDR.out
    rw[List.drop_zero,List.drop_zero] at this
    rw[←HR.out,this]
    unfold gn
    rw[if_neg (by omega),if_neg (by omega)]
    rfl
   | succ k=>
    obtain⟨b1,o1,rfl,hc1⟩:=HS.out.at (i:=k) (by omega)
    obtain⟨b2,o2,rfl,hc2⟩:=HS'.out.at (i:=k) (by omega)
    have hc1':∀q,(w.drewN q).cell? ⟨b1,o1 + k,none⟩=some (.int .u64 ((l[k]?.getD 0:Nat):Int)):=fun q=>hc1
    have hc2':∀q,(w.drewN q).cell? ⟨b2,o2 + k,none⟩=some (.int .u64 ((l'[k]?.getD 0:Nat):Int)):=fun q=>hc2
    rw[show ((k + 1:Nat):Int) - 1=(k:Int) from by omega]
    have d1:=HD.out.1.get (by omega) k
    have d2:=HD'.out.1.get (by omega) k
    have L1:=HS.out.len
    have L2:=HS'.out.len
    have HL1:=Lib.hid L1
    have HL2:=Lib.hid L2
    clear L1 L2
    rcases Nat.lt_trichotomy (l[k]?.getD 0) (l'[k]?.getD 0) with hlt|heq|hgt
    ·have hfin:R= -1:=by
      have:=py (by omega) HD.out.1 HD'.out.1 (by rw[HL1.out,HL2.out]) k (by rw[HL1.out];omega) HDR.out hlt
      rw[←HR.out];unfold gn;rw[if_pos this]
     subst hfin
     have hlt':((l[k]?.getD 0:Nat):Int) < ((l'[k]?.getD 0:Nat):Int):=by omega
     go_wp2
     go_quiet (fail)
     go_wp2
     go_ret
     exact⟨q + nq,rfl,World.drewN_drewN ..⟩
    ·have he1:(((l[k]?.getD 0:Nat):Int) == ((l'[k]?.getD 0:Nat):Int))=true:=by rw[beq_iff_eq];omega
     have hdr:=jc7 (by rw[HL1.out];omega) (by rw[HL2.out];omega) heq HDR.out
     have HDR':=Lib.hid hdr
     have HEQ:=Lib.hid heq
     clear hdr heq he1
     have hge1:((l'[k]?.getD 0:Nat):Int)≤((l[k]?.getD 0:Nat):Int):=by have:=HEQ.out;omega
     have hge2:((l[k]?.getD 0:Nat):Int)≤((l'[k]?.getD 0:Nat):Int):=by have:=HEQ.out;omega
     go_wp2
     go_quiet (fail)
     go_wp2
     go_quiet (fail)
     go_wp2
     go_roundw
     case rel=>exact⟨k,by omega,rfl,HDR'.out,_,(by first|rfl|(simp only[World.drewN_drewN];rfl))⟩
     all_goals first|(simp[intOf];done)|(simp[intOf];omega)
    ·have hfin:R=1:=by
      have:=py (by omega) HD'.out.1 HD.out.1 (by rw[HL1.out,HL2.out]) k (by rw[HL2.out];omega) HDR.out.symm hgt
      rw[←HR.out];unfold gn;rw[if_neg (by omega),if_pos this]
     subst hfin
     have hge1:((l'[k]?.getD 0:Nat):Int)≤((l[k]?.getD 0:Nat):Int):=by omega
     have hgt':((l'[k]?.getD 0:Nat):Int) < ((l[k]?.getD 0:Nat):Int):=by omega
     go_wp2
     go_quiet (fail)
     go_wp2
     go_quiet (fail)
     go_wp2
     go_ret
     exact⟨_,rfl,(by first|rfl|(simp only[World.drewN_drewN];rfl))⟩
 ·have h':¬ (n:Int)=m:=by omega
  have hfin:gn (val 18446744073709551616 l) (val 18446744073709551616 l')=1:=by
   have:=HD'.out.lt_of_length (by omega) HD.out (by rw[HS.out.len,HS'.out.len];exact h)
   unfold gn;rw[if_neg (by omega),if_pos this]
  rw[hfin];clear hfin
  go_enter Tryz.func49,Tryz.ntmps49
  go_wp2
  go_ret
  exact⟨0,rfl,rfl⟩
end Go.Proofs.YtidmjdmmpajooaaGreat
namespace Go.Proofs.YtidmjdmmpajooaaGreat
open Go.RowKit Dg
theorem yy {B:Nat} (hB:1 < B) {l:List Nat} (hl:cj B l) (h:0 < l.length→B ^ (l.length - 1)≤val B l):bi B l:=by
 refine⟨hl,fun h0 h1=>?_⟩
 have hk:l.length - 1 < l.length:=by omega
 have h2:=dn B l (l.length - 1) hk
 rw[show l.length - 1 + 1=l.length from by omega,bg _ _ _ (Nat.le_refl _),h1,Nat.mul_zero,Nat.add_zero] at h2
 have h3:=gp (by omega) (hl.take (l.length - 1))
 rw[List.length_take,Nat.min_eq_left (by omega)] at h3
 have:=h h0
 omega
theorem jc0 {B:Nat} {l:List Nat} {d:Nat} (hl:cj B l) (hd:d < B) (h0:d≠0):bi B (l ++ [d]):=by
 refine⟨hl.append (by intro x hx;simp at hx;omega),fun _=>?_⟩
 simp[h0]
theorem Blk.owns' {k:IntKind} {e:TypeId} {w:World} {g:Nat} {l:List Nat} (h:Blk k e w g l) (n:Nat) (hn:n≤l.length) (hm:l.length≤9223372036854775807):
  w.ownsRow g e 1 (.slice (some ⟨g,0,none⟩) n l.length) n ((l.take n).map fun x:Nat=>Value.int k (x:Int)):=
 ⟨by simp[Nat.min_eq_left hn],.inr ⟨g,l.length,U k l,rfl,Nat.le_refl _,h,hn,by simpa [maxLen] using hm,by simp[U_size],by simp[U,List.map_take]⟩⟩
theorem Blk.sl' {k:IntKind} {e:TypeId} {w:World} {g:Nat} {l:List Nat} (h:Blk k e w g l) (n:Nat) (hn:n≤l.length) (hm:l.length≤9223372036854775807) (he:e=tyOf k:=by rfl):Sl k w (some ⟨g,0,none⟩) n l.length (l.take n):=
 (h.sl hm he).take n hn
theorem l_plus_ge (ao bo:Option Addr) (n c m d:Nat) (l l':List Nat) (w:World) (hs:Sl .u64 w ao n c l) (hs':Sl .u64 w bo m d l') (hd:bi 18446744073709551616 l) (hd':bi 18446744073709551616 l')
  (hn:n≤1099511627776) (hm:m≤1099511627776) (hlen:m≤n):
  Calls Tryz.prog 53 #[.slice ao n c,.slice bo m d] w (RetL w (val 18446744073709551616 l + val 18446744073709551616 l')):=by
 have HS:=Lib.hid hs;clear hs
 have HS':=Lib.hid hs';clear hs'
 have HD:=Lib.hid hd;clear hd
 have HD':=Lib.hid hd';clear hd'
 obtain⟨i0,hi,hz0,hz1,hz2⟩:=info_parts kh
 go_enter Tryz.func53,Tryz.ntmps53
 go_wp2_with (at_make;refine co _ rfl _ _ 35 rfl 95 i0 .u64 Tryz.underlying35 hi hz0 hz1 _ _ _ _ n (n + 1) rfl rfl ?c1 ?c2 (by omega) ?c3 ?c4 ?_)
 case c1=>omega
 case c2=>omega
 case c3=>rw[hz2];omega
 case c4=>omega
 go_loopw [6,25] (fun cv iv wr=>∃(k carry:Nat) (ol:List Nat),k≤n∧iv=.int .i64 k∧cv=.int .u64 carry∧carry≤1∧Blk .u64 95 wr w.heap.size ol∧ol.length=n + 1∧cj 18446744073709551616 ol∧
   val 18446744073709551616 (ol.take k) + carry * 18446744073709551616 ^ k=val 18446744073709551616 (l.take k) + val 18446744073709551616 (l'.take k)∧Below w.heap.size w wr) (fun _ iv _=>n - (intOf iv).toNat)
 case atStart=>exact⟨0,0,_,by omega,rfl,rfl,by omega,Blk.new .u64 _ w _,by simp,cj.zeros (by omega) _,by simp[val],(Below.refl _ _).alloc (Nat.le_refl _) _⟩
 case round=>
  obtain⟨k,carry,ol,hk,rfl,rfl,hc1,hblk,hol,hdo,hval,hbel⟩:=hrel
  have e1:=(HS.out).mono hbel
  have e2:=(HS'.out).mono hbel
  have d1:=HD.out.1.get (by omega) k
  have d2:=HD'.out.1.get (by omega) k
  have HB:=Lib.hid hblk
  have HO:=Lib.hid hol
  have HV:=Lib.hid hval
  have HDO:=Lib.hid hdo
  have HBE:=Lib.hid hbel
  have HE1:=Lib.hid e1
  have HE2:=Lib.hid e2
  have z2:m≤k→l'[k]?.getD 0=0:=fun h=>by rw[List.getElem?_eq_none (by have:=HS'.out.len;omega)];rfl
  have Z2:=Lib.hid z2
  clear hblk hol hval hdo hbel e1 e2 z2
  by_cases hkL:k < n
  ·have hcell:=HB.out.cell (j:=k) (by have:=HO.out;omega)
   have hfree:=HB.out.free k
   have fin:∀(x:Nat),x=carry + l[k]?.getD 0 + l'[k]?.getD 0→∃(k' carry':Nat) (ol':List Nat),k'≤n∧Value.int .i64 ((k:Int) + 1)=.int .i64 k'∧Value.int .u64 ((x:Int) / 18446744073709551616)=.int .u64 carry'∧carry'≤1∧
      Blk .u64 95 (wr.setCell ⟨w.heap.size,k,none⟩ (.int .u64 ((x:Int) % 18446744073709551616))) w.heap.size ol'∧ol'.length=n + 1∧cj 18446744073709551616 ol'∧
      val 18446744073709551616 (ol'.take k') + carry' * 18446744073709551616 ^ k'=val 18446744073709551616 (l.take k') + val 18446744073709551616 (l'.take k')∧Below w.heap.size w (wr.setCell ⟨w.heap.size,k,none⟩ (.int .u64 ((x:Int) % 18446744073709551616))):=by
    rintro x rfl
    refine⟨k + 1,(carry + l[k]?.getD 0 + l'[k]?.getD 0) / 18446744073709551616,ol.set k ((carry + l[k]?.getD 0 + l'[k]?.getD 0) % 18446744073709551616),by omega,by go_num,rfl,by omega,?_,by rw[List.length_set];exact HO.out,HDO.out.set _ _ (Nat.mod_lt _ (by omega)),?_,HBE.out.setCell (Nat.le_refl _) _⟩
    ·exact HB.out.set _ _
    exact jf7 _ _ _ _ _ _ (by rw[HO.out];omega) HV.out
   have FIN:=Lib.hid fin
   clear fin
   obtain⟨b1,o1,rfl,hca⟩:=HE1.out.at hkL
   by_cases h2:k < m
   ·obtain⟨b2,o2,rfl,hcb⟩:=HE2.out.at h2
    have A1:=add64 ((l[k]?.getD 0:Nat):Int) ((l'[k]?.getD 0:Nat):Int) (carry:Int) (by omega) (by omega) (by omega) (by omega)
    go_wp2
    go_roundw
    case rel=>have:=FIN.out (l[k]?.getD 0 + l'[k]?.getD 0 + carry) (by omega);exact this
    all_goals first|(simp[intOf];done)|(simp[intOf];omega)
   have h2':m≤k:=by omega
   have A1:=add64 ((l[k]?.getD 0:Nat):Int) 0 (carry:Int) (by omega) (by omega) (by omega) (by omega)
   rw[Int.add_zero] at A1
   go_wp2
   go_roundw
   case rel=>have:=FIN.out (l[k]?.getD 0 + carry) (by have:=Z2.out h2';omega);exact this
   all_goals first|(simp[intOf];done)|(simp[intOf];omega)
  obtain rfl:k=n:=by omega
  have hsum:val 18446744073709551616 (ol.take k) + carry * 18446744073709551616 ^ k=val 18446744073709551616 l + val 18446744073709551616 l':=by
   have:=HV.out
   rw[bg _ l k (by have:=HS.out.len;omega),bg _ l' k (by have:=HS.out.len;have:=HS'.out.len;omega)] at this
   omega
  have HSUM:=Lib.hid hsum
  clear hsum
  have hlen:=HO.out
  by_cases hc0:carry=0
  ·subst hc0
   clear hlen
   go_wp2
   go_ret
   refine⟨_,rfl,⟨_,_,_,_,rfl,(by have:=HB.out.sl' k (by have:=HO.out;omega) (by have:=HO.out;omega);rw[HO.out] at this;exact this),yy (by omega) (HDO.out.take k) ?_,by have:=HSUM.out;omega⟩,HBE.out⟩
   intro h0
   have h1:=HSUM.out
   have h2:(ol.take k).length=k:=by rw[List.length_take,HO.out];omega
   rw[h2] at h0 ⊢
   have h3:=HD.out.ge (by rw[HS.out.len];exact h0)
   rw[HS.out.len] at h3
   omega
  have hc1':0 < carry:=by omega
  have howns:=HB.out.owns' k (by omega) (by omega)
  rw[hlen] at howns
  have HOWN:=Lib.hid (howns.alloc (.cells #[.int .u64 (carry:Int)] 95))
  clear howns hlen
  have hnews:∀j u,[Value.int .u64 (carry:Int)][j]?=some u→(wr.alloc (.cells #[.int .u64 (carry:Int)] 95)).cell? ((⟨wr.heap.size,0,none⟩:Addr).add j)=some u:=by
   intro j u hu
   rw[iy,World.cell?_alloc_at _ _ _ _ rfl]
   match j with
   | 0=>simpa using hu
   | j + 1=>simp at hu
  have HNEWS:=Lib.hid hnews
  clear hnews
  go_wp2_with (at_builtin;refine wpList_append_own _ rfl _ _ 35 rfl w.heap.size 95 i0 (.int .u64 0) 1 8 Tryz.underlying35 hi hz0 hz1 hz2 rfl (by decide) _ _ _ rfl HOWN.out ⟨wr.heap.size,0,none⟩ 1 1 [.int .u64 (carry:Int)] rfl ?d1 HNEWS.out ?d5 ?d2 ?d3 ?d4 ?_)
  case d1=>rfl
  case d5=>intro u hu;simp at hu;subst hu;rfl
  case d2=>unfold maxLen;omega
  case d3=>omega
  case d4=>have:=HB.out.lt;simp;omega
  intro v' w1 hown' hgrow hnil
  have hown':w1.ownsRow w.heap.size 95 1 v' (k + 1) ((ol.take k ++ [carry]).map fun x:Nat=>Value.int .u64 (x:Int)):=by simpa using hown'
  have hne:v'≠.slice none 0 0:=fun h=>by first|exact hnil h|(have:=(hnil.1 h).1;cases this)
  obtain⟨ao',c',rfl,hsl⟩:=Sl.of_owns hown' (.inl hne)
  have hbel:=og hgrow ((HBE.out).alloc HBE.out.size (.cells #[.int .u64 (carry:Int)] 95)) (by have:=HB.out.lt;simp;omega)
  have HSL:=Lib.hid hsl
  have HBEL:=Lib.hid hbel
  clear hown' hgrow hnil hsl hbel hne
  go_wp2
  go_ret
  refine⟨_,rfl,⟨_,_,_,_,rfl,HSL.out,jc0 (HDO.out.take k) (by omega) hc0,?_⟩,HBEL.out⟩
  rw[il,List.length_take,HO.out,Nat.min_eq_left (by omega),ns,←HSUM.out,Nat.mul_comm]
theorem l_plus_lt (ao bo:Option Addr) (n c m d:Nat) (l l':List Nat) (w:World) (hs:Sl .u64 w ao n c l) (hs':Sl .u64 w bo m d l') (hd:bi 18446744073709551616 l) (hd':bi 18446744073709551616 l')
  (hn:n≤1099511627776) (hm:m≤1099511627776) (hlen:n < m):
  Calls Tryz.prog 53 #[.slice ao n c,.slice bo m d] w (RetL w (val 18446744073709551616 l + val 18446744073709551616 l')):=by
 have HS:=Lib.hid hs;clear hs
 have HS':=Lib.hid hs';clear hs'
 have HD:=Lib.hid hd;clear hd
 have HD':=Lib.hid hd';clear hd'
 obtain⟨i0,hi,hz0,hz1,hz2⟩:=info_parts kh
 go_enter Tryz.func53,Tryz.ntmps53
 go_wp2_with (at_make;refine co _ rfl _ _ 35 rfl 95 i0 .u64 Tryz.underlying35 hi hz0 hz1 _ _ _ _ m (m + 1) rfl rfl ?c1 ?c2 (by omega) ?c3 ?c4 ?_)
 case c1=>omega
 case c2=>omega
 case c3=>rw[hz2];omega
 case c4=>omega
 go_loopw [6,25] (fun cv iv wr=>∃(k carry:Nat) (ol:List Nat),k≤m∧iv=.int .i64 k∧cv=.int .u64 carry∧carry≤1∧Blk .u64 95 wr w.heap.size ol∧ol.length=m + 1∧cj 18446744073709551616 ol∧
   val 18446744073709551616 (ol.take k) + carry * 18446744073709551616 ^ k=val 18446744073709551616 (l'.take k) + val 18446744073709551616 (l.take k)∧Below w.heap.size w wr) (fun _ iv _=>m - (intOf iv).toNat)
 case atStart=>exact⟨0,0,_,by omega,rfl,rfl,by omega,Blk.new .u64 _ w _,by simp,cj.zeros (by omega) _,by simp[val],(Below.refl _ _).alloc (Nat.le_refl _) _⟩
 case round=>
  obtain⟨k,carry,ol,hk,rfl,rfl,hc1,hblk,hol,hdo,hval,hbel⟩:=hrel
  have e1:=(HS'.out).mono hbel
  have e2:=(HS.out).mono hbel
  have d1:=HD'.out.1.get (by omega) k
  have d2:=HD.out.1.get (by omega) k
  have HB:=Lib.hid hblk
  have HO:=Lib.hid hol
  have HV:=Lib.hid hval
  have HDO:=Lib.hid hdo
  have HBE:=Lib.hid hbel
  have HE1:=Lib.hid e1
  have HE2:=Lib.hid e2
  have z2:n≤k→l[k]?.getD 0=0:=fun h=>by rw[List.getElem?_eq_none (by have:=HS.out.len;omega)];rfl
  have Z2:=Lib.hid z2
  clear hblk hol hval hdo hbel e1 e2 z2
  by_cases hkL:k < m
  ·have hcell:=HB.out.cell (j:=k) (by have:=HO.out;omega)
   have hfree:=HB.out.free k
   have fin:∀(x:Nat),x=carry + l'[k]?.getD 0 + l[k]?.getD 0→∃(k' carry':Nat) (ol':List Nat),k'≤m∧Value.int .i64 ((k:Int) + 1)=.int .i64 k'∧Value.int .u64 ((x:Int) / 18446744073709551616)=.int .u64 carry'∧carry'≤1∧
      Blk .u64 95 (wr.setCell ⟨w.heap.size,k,none⟩ (.int .u64 ((x:Int) % 18446744073709551616))) w.heap.size ol'∧ol'.length=m + 1∧cj 18446744073709551616 ol'∧
      val 18446744073709551616 (ol'.take k') + carry' * 18446744073709551616 ^ k'=val 18446744073709551616 (l'.take k') + val 18446744073709551616 (l.take k')∧Below w.heap.size w (wr.setCell ⟨w.heap.size,k,none⟩ (.int .u64 ((x:Int) % 18446744073709551616))):=by
    rintro x rfl
    refine⟨k + 1,(carry + l'[k]?.getD 0 + l[k]?.getD 0) / 18446744073709551616,ol.set k ((carry + l'[k]?.getD 0 + l[k]?.getD 0) % 18446744073709551616),by omega,by go_num,rfl,by omega,?_,by rw[List.length_set];exact HO.out,HDO.out.set _ _ (Nat.mod_lt _ (by omega)),?_,HBE.out.setCell (Nat.le_refl _) _⟩
    ·exact HB.out.set _ _
    exact jf7 _ _ _ _ _ _ (by rw[HO.out];omega) HV.out
   have FIN:=Lib.hid fin
   clear fin
   obtain⟨b1,o1,rfl,hca⟩:=HE1.out.at hkL
   by_cases h2:k < n
   ·obtain⟨b2,o2,rfl,hcb⟩:=HE2.out.at h2
    have A1:=add64 ((l'[k]?.getD 0:Nat):Int) ((l[k]?.getD 0:Nat):Int) (carry:Int) (by omega) (by omega) (by omega) (by omega)
    go_wp2
    go_roundw
    case rel=>have:=FIN.out (l'[k]?.getD 0 + l[k]?.getD 0 + carry) (by omega);exact this
    all_goals first|(simp[intOf];done)|(simp[intOf];omega)
   have h2':n≤k:=by omega
   have A1:=add64 ((l'[k]?.getD 0:Nat):Int) 0 (carry:Int) (by omega) (by omega) (by omega) (by omega)
   rw[Int.add_zero] at A1
   go_wp2
   go_roundw
   case rel=>have:=FIN.out (l'[k]?.getD 0 + carry) (by have:=Z2.out h2';omega);exact this
   all_goals first|(simp[intOf];done)|(simp[intOf];omega)
  obtain rfl:k=m:=by omega
  have hsum:val 18446744073709551616 (ol.take k) + carry * 18446744073709551616 ^ k=val 18446744073709551616 l + val 18446744073709551616 l':=by
   have:=HV.out
   rw[bg _ l' k (by have:=HS'.out.len;omega),bg _ l k (by have:=HS'.out.len;have:=HS.out.len;omega)] at this
   omega
  have HSUM:=Lib.hid hsum
  clear hsum
  have hlen:=HO.out
  by_cases hc0:carry=0
  ·subst hc0
   clear hlen
   go_wp2
   go_ret
   refine⟨_,rfl,⟨_,_,_,_,rfl,(by have:=HB.out.sl' k (by have:=HO.out;omega) (by have:=HO.out;omega);rw[HO.out] at this;exact this),yy (by omega) (HDO.out.take k) ?_,by have:=HSUM.out;omega⟩,HBE.out⟩
   intro h0
   have h1:=HSUM.out
   have h2:(ol.take k).length=k:=by rw[List.length_take,HO.out];omega
   rw[h2] at h0 ⊢
   have h3:=HD'.out.ge (by rw[HS'.out.len];exact h0)
   rw[HS'.out.len] at h3
   omega
  have hc1':0 < carry:=by omega
  have howns:=HB.out.owns' k (by omega) (by omega)
  rw[hlen] at howns
  have HOWN:=Lib.hid (howns.alloc (.cells #[.int .u64 (carry:Int)] 95))
  clear howns hlen
  have hnews:∀j u,[Value.int .u64 (carry:Int)][j]?=some u→(wr.alloc (.cells #[.int .u64 (carry:Int)] 95)).cell? ((⟨wr.heap.size,0,none⟩:Addr).add j)=some u:=by
   intro j u hu
   rw[iy,World.cell?_alloc_at _ _ _ _ rfl]
   match j with
   | 0=>simpa using hu
   | j + 1=>simp at hu
  have HNEWS:=Lib.hid hnews
  clear hnews
  go_wp2_with (at_builtin;refine wpList_append_own _ rfl _ _ 35 rfl w.heap.size 95 i0 (.int .u64 0) 1 8 Tryz.underlying35 hi hz0 hz1 hz2 rfl (by decide) _ _ _ rfl HOWN.out ⟨wr.heap.size,0,none⟩ 1 1 [.int .u64 (carry:Int)] rfl ?d1 HNEWS.out ?d5 ?d2 ?d3 ?d4 ?_)
  case d1=>rfl
  case d5=>intro u hu;simp at hu;subst hu;rfl
  case d2=>unfold maxLen;omega
  case d3=>omega
  case d4=>have:=HB.out.lt;simp;omega
  intro v' w1 hown' hgrow hnil
  have hown':w1.ownsRow w.heap.size 95 1 v' (k + 1) ((ol.take k ++ [carry]).map fun x:Nat=>Value.int .u64 (x:Int)):=by simpa using hown'
  have hne:v'≠.slice none 0 0:=fun h=>by first|exact hnil h|(have:=(hnil.1 h).1;cases this)
  obtain⟨ao',c',rfl,hsl⟩:=Sl.of_owns hown' (.inl hne)
  have hbel:=og hgrow ((HBE.out).alloc HBE.out.size (.cells #[.int .u64 (carry:Int)] 95)) (by have:=HB.out.lt;simp;omega)
  have HSL:=Lib.hid hsl
  have HBEL:=Lib.hid hbel
  clear hown' hgrow hnil hsl hbel hne
  go_wp2
  go_ret
  refine⟨_,rfl,⟨_,_,_,_,rfl,HSL.out,jc0 (HDO.out.take k) (by omega) hc0,?_⟩,HBEL.out⟩
  rw[il,List.length_take,HO.out,Nat.min_eq_left (by omega),ns,←HSUM.out,Nat.mul_comm]
end Go.Proofs.YtidmjdmmpajooaaGreat
namespace Go.Proofs.YtidmjdmmpajooaaGreat
open Go.RowKit Dg
theorem ck.sl {k:IntKind} {B:Nat} {w:World} {ao:Option Addr} {n c:Nat} {l:List Nat} (hs:Sl k w ao n c l) (hc:bi B l):ck k B w (.slice ao n c) (val B l):=⟨_,_,_,_,rfl,hs,hc,rfl⟩
theorem l_plus_calls (ao bo:Option Addr) (n c m d:Nat) (l l':List Nat) (w:World) (hs:Sl .u64 w ao n c l) (hs':Sl .u64 w bo m d l') (hd:bi 18446744073709551616 l) (hd':bi 18446744073709551616 l')
  (hn:n≤1099511627776) (hm:m≤1099511627776):
  Calls Tryz.prog 53 #[.slice ao n c,.slice bo m d] w (RetL w (val 18446744073709551616 l + val 18446744073709551616 l')):=by
 rcases Nat.lt_or_ge n m with h|h
 ·exact l_plus_lt _ _ _ _ _ _ _ _ _ hs hs' hd hd' hn hm h
 ·exact l_plus_ge _ _ _ _ _ _ _ _ _ hs hs' hd hd' hn hm h
theorem mul64 (x y:Nat) (hx:x < 18446744073709551616) (hy:y < 18446744073709551616) (w:World):
  Calls Tryz.prog 71 #[.int .u64 x,.int .u64 y] w fun e w'=>∃hi lo:Nat,e=.returned (.tuple #[.int .u64 hi,.int .u64 lo])∧w=w'∧hi * 18446744073709551616 + lo=x * y∧lo < 18446744073709551616∧hi≤18446744073709551614:=by
 refine (Tryz.bits_Mul64 x y hx hy w).mono ?_
 rintro e w' ⟨rfl,rfl⟩
 refine⟨_,_,rfl,rfl,?_,Nat.mod_lt _ (by omega),?_⟩
 ·have:=Nat.div_add_mod (x * y) 18446744073709551616;omega
 ·have h1:x * y≤18446744073709551615 * 18446744073709551615:=Nat.mul_le_mul (by omega) (by omega)
  omega
theorem l_minus_calls (ao bo:Option Addr) (n c m d:Nat) (l l':List Nat) (w:World) (hs:Sl .u64 w ao n c l) (hs':Sl .u64 w bo m d l') (hd:bi 18446744073709551616 l) (hd':bi 18446744073709551616 l')
  (hn:n≤1099511627776) (hle:val 18446744073709551616 l'≤val 18446744073709551616 l):
  Calls Tryz.prog 54 #[.slice ao n c,.slice bo m d] w (RetL w (val 18446744073709551616 l - val 18446744073709551616 l')):=by
 have hmn:m≤n:=by have:=hd'.length_le_of (by omega) hd hle;rw[hs.len,hs'.len] at this;exact this
 have HS:=Lib.hid hs;clear hs
 have HS':=Lib.hid hs';clear hs'
 have HD:=Lib.hid hd;clear hd
 have HD':=Lib.hid hd';clear hd'
 have HLE:=Lib.hid hle;clear hle
 obtain⟨i0,hi,hz0,hz1,hz2⟩:=info_parts kh
 go_enter Tryz.func54,Tryz.ntmps54
 go_wp2_with (at_make;refine co _ rfl _ _ 35 rfl 95 i0 .u64 Tryz.underlying35 hi hz0 hz1 _ _ _ _ n n rfl rfl rfl rfl (Nat.le_refl _) ?c3 ?c4 ?_)
 case c3=>rw[hz2];omega
 case c4=>omega
 go_loopw [6,15] (fun cv iv wr=>∃(k borrow:Nat) (ol:List Nat),k≤n∧iv=.int .i64 k∧cv=.int .u64 borrow∧borrow≤1∧Blk .u64 95 wr w.heap.size ol∧ol.length=n∧cj 18446744073709551616 ol∧
   val 18446744073709551616 (ol.take k) + val 18446744073709551616 (l'.take k)=val 18446744073709551616 (l.take k) + borrow * 18446744073709551616 ^ k∧Below w.heap.size w wr) (fun _ iv _=>n - (intOf iv).toNat)
 case atStart=>exact⟨0,0,_,by omega,rfl,rfl,by omega,Blk.new .u64 _ w _,by simp,cj.zeros (by omega) _,by simp[val],(Below.refl _ _).alloc (Nat.le_refl _) _⟩
 case round=>
  obtain⟨k,borrow,ol,hk,rfl,rfl,hc1,hblk,hol,hdo,hval,hbel⟩:=hrel
  have e1:=(HS.out).mono hbel
  have e2:=(HS'.out).mono hbel
  have d1:=HD.out.1.get (by omega) k
  have d2:=HD'.out.1.get (by omega) k
  have HB:=Lib.hid hblk
  have HO:=Lib.hid hol
  have HV:=Lib.hid hval
  have HDO:=Lib.hid hdo
  have HBE:=Lib.hid hbel
  have HE1:=Lib.hid e1
  have HE2:=Lib.hid e2
  have z2:m≤k→l'[k]?.getD 0=0:=fun h=>by rw[List.getElem?_eq_none (by have:=HS'.out.len;omega)];rfl
  have Z2:=Lib.hid z2
  clear hblk hol hval hdo hbel e1 e2 z2
  by_cases hkL:k < n
  ·have hcell:=HB.out.cell (j:=k) (by have:=HO.out;omega)
   have hfree:=HB.out.free k
   have fin:∀(y' x:Int) (nb:Int),y'=((l'[k]?.getD 0:Nat):Int)→x=(((l[k]?.getD 0:Nat):Int) - y' - borrow) % 18446744073709551616→nb=bor ((l[k]?.getD 0:Nat):Int) y' borrow→∃(k' carry':Nat) (ol':List Nat),k'≤n∧Value.int .i64 ((k:Int) + 1)=.int .i64 k'∧Value.int .u64 nb=.int .u64 carry'∧carry'≤1∧
      Blk .u64 95 (wr.setCell ⟨w.heap.size,k,none⟩ (.int .u64 x)) w.heap.size ol'∧ol'.length=n∧cj 18446744073709551616 ol'∧
      val 18446744073709551616 (ol'.take k') + val 18446744073709551616 (l'.take k')=val 18446744073709551616 (l.take k') + carry' * 18446744073709551616 ^ k'∧Below w.heap.size w (wr.setCell ⟨w.heap.size,k,none⟩ (.int .u64 x)):=by
    intro y' x nb hy' hx hnb
    obtain⟨y,rfl⟩:=Int.eq_ofNat_of_zero_le (show 0≤x by omega)
    have hnb':nb=0∨nb=1:=by rw[hnb];unfold bor;split<;>simp
    obtain⟨nb,rfl⟩:=Int.eq_ofNat_of_zero_le (show 0≤nb by omega)
    have hx':y + (borrow + l'[k]?.getD 0)=l[k]?.getD 0 + nb * 18446744073709551616:=by
     subst hy'
     unfold bor at hnb
     split at hnb<;>omega
    refine⟨k + 1,nb,ol.set k y,by omega,by go_num,rfl,by omega,HB.out.set _ _,by rw[List.length_set];exact HO.out,HDO.out.set _ _ (by omega),?_,HBE.out.setCell (Nat.le_refl _) _⟩
    exact jc6 _ _ _ _ _ borrow (by rw[HO.out];exact hkL) HV.out y y nb hx' rfl
   have FIN:=Lib.hid fin
   clear fin
   obtain⟨b1,o1,rfl,hc1⟩:=HE1.out.at hkL
   by_cases h2:k < m
   ·obtain⟨b2,o2,rfl,hc2⟩:=HE2.out.at h2
    have A1:=sub64 ((l[k]?.getD 0:Nat):Int) ((l'[k]?.getD 0:Nat):Int) (borrow:Int) (by omega) (by omega) (by omega) (by omega) (by omega)
    go_wp2
    go_roundw
    case rel=>exact FIN.out _ _ _ rfl rfl rfl
    all_goals first|(simp[intOf];done)|(simp[intOf];omega)
   ·have h2':m≤k:=by omega
    have A1:=sub64 ((l[k]?.getD 0:Nat):Int) 0 (borrow:Int) (by omega) (by omega) (by omega) (by omega) (by omega)
    go_wp2
    go_roundw
    case rel=>exact FIN.out 0 _ _ (by rw[Z2.out h2'];rfl) rfl rfl
    all_goals first|(simp[intOf];done)|(simp[intOf];omega)
  ·go_wp2_with fail
   obtain rfl:k=n:=by omega
   refine (gw _ _ _ ol _ (by have:=HB.out.sl (by have:=HO.out;omega);rw[HO.out] at this;exact this) HDO.out).mono ?_
   rintro e w' ⟨j,hj,hcj,hvj,rfl,rfl⟩
   go_wp2
   go_ret
   refine⟨_,rfl,⟨_,_,_,_,rfl,(by have:=HB.out.sl (by have:=HO.out;omega);rw[HO.out] at this;exact this.take j hj),hcj,?_⟩,HBE.out⟩
   rw[hvj]
   have hv:=HV.out
   rw[←HO.out] at hv
   exact dif_end (by omega) HDO.out (by rw[HO.out,HS.out.len]) (by rw[HS.out.len,HS'.out.len];exact hmn) HLE.out hv
theorem l_times_long (ao bo:Option Addr) (n c m d:Nat) (l l':List Nat) (w:World) (hs:Sl .u64 w ao n c l) (hs':Sl .u64 w bo m d l') (hd:bi 18446744073709551616 l) (hd':bi 18446744073709551616 l')
  (hn:n≤1099511627776) (hm:m≤1099511627776) (h1:val 18446744073709551616 l≠1) (h2:val 18446744073709551616 l'≠1):
  Calls Tryz.prog 47 #[.slice ao n c,.slice bo m d] w (RetL w (val 18446744073709551616 l * val 18446744073709551616 l')):=by
 have HN1:=Lib.hid (ck.sl hs hd)
 have HN2:=Lib.hid (ck.sl hs' hd')
 have HS:=Lib.hid hs;clear hs
 have HS':=Lib.hid hs';clear hs'
 have HD:=Lib.hid hd.1;clear hd
 have HD':=Lib.hid hd'.1;clear hd'
 have H1:=Lib.hid h1;clear h1
 have H2:=Lib.hid h2;clear h2
 obtain⟨i0,hi,hz0,hz1,hz2⟩:=info_parts kh
 go_enter Tryz.func47,Tryz.ntmps47
 go_wp2_with fail
 refine (jf _ _ _ HN1.out).mono ?_
 rintro e w' ⟨rfl,rfl⟩
 rw[decide_eq_false H1.out]
 go_wp2_with fail
 refine (jf _ _ _ HN2.out).mono ?_
 rintro e w' ⟨rfl,rfl⟩
 rw[decide_eq_false H2.out]
 go_wp2_with (at_make;refine co _ rfl _ _ 35 rfl 95 i0 .u64 Tryz.underlying35 hi hz0 hz1 _ _ _ _ (n + m) (n + m) rfl rfl ?c1 ?c2 (Nat.le_refl _) ?c3 ?c4 ?_)
 case c1=>omega
 case c2=>omega
 case c3=>rw[hz2];omega
 case c4=>omega
 go_loopw [28] (fun iv wr=>∃(i:Nat) (ol:List Nat),i≤n∧iv=.int .i64 i∧Blk .u64 95 wr w.heap.size ol∧ol.length=n + m∧cj 18446744073709551616 ol∧(∀j,i + m≤j→ol[j]?.getD 0=0)∧
   val 18446744073709551616 ol=val 18446744073709551616 (l.take i) * val 18446744073709551616 l'∧Below w.heap.size w wr) (fun iv _=>n - (intOf iv).toNat)
 case atStart=>exact⟨0,_,by omega,rfl,Blk.new .u64 _ w _,by simp,cj.zeros (by omega) _,by intro j hj;by_cases h:j < n + m<;>simp[h],by simp[val,nw],(Below.refl _ _).alloc (Nat.le_refl _) _⟩
 case round=>
  obtain⟨i,ol,hin,rfl,hblk,hol,hdo,hzo,hval,hbel⟩:=hrel
  have d1:=HD.out.get (by omega) i
  have HB:=Lib.hid hblk
  have HO:=Lib.hid hol
  have HV:=Lib.hid hval
  have HDO:=Lib.hid hdo
  have HBE:=Lib.hid hbel
  have HZO:=Lib.hid hzo
  have HE1:=Lib.hid (HS.out.mono hbel)
  clear hblk hol hval hdo hbel hzo
  by_cases hiL:i < n
  ·obtain⟨b1,o1,rfl,hca⟩:=HE1.out.at hiL
   go_wp2
   go_loopw [8,35] (fun cv kv wr=>∃(k carry:Nat) (ol:List Nat),k≤m∧kv=.int .i64 k∧cv=.int .u64 carry∧carry < 18446744073709551616∧Blk .u64 95 wr w.heap.size ol∧ol.length=n + m∧cj 18446744073709551616 ol∧(∀j,i + m≤j→ol[j]?.getD 0=0)∧
    val 18446744073709551616 ol + carry * 18446744073709551616 ^ (i + k)=val 18446744073709551616 (l.take i) * val 18446744073709551616 l' + l[i]?.getD 0 * val 18446744073709551616 (l'.take k) * 18446744073709551616 ^ i∧Below w.heap.size w wr) (fun _ kv _=>m - (intOf kv).toNat)
   case atStart=>exact⟨0,0,ol,by omega,rfl,rfl,by omega,HB.out,HO.out,HDO.out,HZO.out,by rw[HV.out];simp[val],HBE.out⟩
   case round=>
    clear HB HO HV HDO HBE HZO HE1 hca
    obtain⟨k,carry,ol,hk,rfl,rfl,hc0,hblk,hol,hdo,hzo,hval,hbel⟩:=hrel
    have HB:=Lib.hid hblk
    have HO:=Lib.hid hol
    have HV:=Lib.hid hval
    have HDO:=Lib.hid hdo
    have HBE:=Lib.hid hbel
    have HZO:=Lib.hid hzo
    have HE2:=Lib.hid (HS'.out.mono hbel)
    clear hblk hol hval hdo hbel hzo
    have d2:=HD'.out.get (by omega) k
    by_cases hkm:k < m
    ·have hcell:=HB.out.cell (j:=i + k) (by have:=HO.out;omega)
     have hfree:=HB.out.free (i + k)
     have d3:=HDO.out.get (by omega) (i + k)
     obtain⟨b2,o2,rfl,hcb⟩:=HE2.out.at hkm
     have fin:∀(hi lo:Nat),hi * 18446744073709551616 + lo=l[i]?.getD 0 * l'[k]?.getD 0→∀x y:Int,x=(((lo:Int) + ((ol[i + k]?.getD 0:Nat):Int)) % 18446744073709551616 + (carry:Int)) % 18446744073709551616→
       y=(hi:Int) + ((lo:Int) + ((ol[i + k]?.getD 0:Nat):Int)) / 18446744073709551616 + (((lo:Int) + ((ol[i + k]?.getD 0:Nat):Int)) % 18446744073709551616 + (carry:Int)) / 18446744073709551616→y < 18446744073709551616→
       ∃(k' carry':Nat) (ol':List Nat),k'≤m∧Value.int .i64 ((k:Int) + 1)=.int .i64 k'∧Value.int .u64 y=.int .u64 carry'∧carry' < 18446744073709551616∧Blk .u64 95 (wr.setCell ⟨w.heap.size,i + k,none⟩ (.int .u64 x)) w.heap.size ol'∧ol'.length=n + m∧cj 18446744073709551616 ol'∧(∀j,i + m≤j→ol'[j]?.getD 0=0)∧
       val 18446744073709551616 ol' + carry' * 18446744073709551616 ^ (i + k')=val 18446744073709551616 (l.take i) * val 18446744073709551616 l' + l[i]?.getD 0 * val 18446744073709551616 (l'.take k') * 18446744073709551616 ^ i∧Below w.heap.size w (wr.setCell ⟨w.heap.size,i + k,none⟩ (.int .u64 x)):=by
      intro hi lo hp x y hx hy hyB
      have hst:=fun x hx=>mul_step 18446744073709551616 l' ol i k (l[i]?.getD 0) carry (val 18446744073709551616 (l.take i) * val 18446744073709551616 l') x (by rw[HO.out];omega) HV.out hx
      have hst:=hst _ rfl
      rw[←hp] at hst
      have ex:x=(((ol[i + k]?.getD 0 + carry + (hi * 18446744073709551616 + lo)) % 18446744073709551616:Nat):Int):=by omega
      have ey:y=(((ol[i + k]?.getD 0 + carry + (hi * 18446744073709551616 + lo)) / 18446744073709551616:Nat):Int):=by omega
      rw[ex,ey]
      rw[ey] at hyB
      refine⟨k + 1,_,ol.set (i + k) ((ol[i + k]?.getD 0 + carry + (hi * 18446744073709551616 + lo)) % 18446744073709551616),by omega,by go_num,rfl,by omega,HB.out.set _ _,by rw[List.length_set];exact HO.out,HDO.out.set _ _ (Nat.mod_lt _ (by omega)),?_,hst,HBE.out.setCell (Nat.le_refl _) _⟩
      intro j hj
      rw[na _ _ _ _ (by rw[HO.out];omega),if_neg (by omega)]
      exact HZO.out j hj
     have FIN:=Lib.hid fin
     clear fin
     go_wp2_with fail
     refine (mul64 (l[i]?.getD 0) (l'[k]?.getD 0) d1 d2 _).mono ?_
     rintro e w' ⟨hi,lo,rfl,rfl,hp,hlo,hhi⟩
     have hprod:l[i]?.getD 0 * l'[k]?.getD 0≤18446744073709551615 * 18446744073709551615:=Nat.mul_le_mul (by omega) (by omega)
     rw[←hp] at hprod
     have HP:=Lib.hid hp
     clear hp
     have A1:=uy (lo:Int) ((ol[i + k]?.getD 0:Nat):Int) (by omega) (by omega)
     have A2:=uy (((lo:Int) + ((ol[i + k]?.getD 0:Nat):Int)) % 18446744073709551616) (carry:Int) (by omega) (by omega)
     have hT:(hi:Int) + ((lo:Int) + ((ol[i + k]?.getD 0:Nat):Int)) / 18446744073709551616 + (((lo:Int) + ((ol[i + k]?.getD 0:Nat):Int)) % 18446744073709551616 + (carry:Int)) / 18446744073709551616 < 18446744073709551616:=by omega
     have HT:=Lib.hid hT
     go_wp2
     go_roundw
     case rel=>exact FIN.out hi lo HP.out _ _ (by first|rfl|omega) rfl HT.out
     all_goals first|(simp[intOf];done)|(simp[intOf];omega)
    ·obtain rfl:k=m:=by omega
     have hcell:=HB.out.cell (j:=i + k) (by have:=HO.out;omega)
     have hfree:=HB.out.free (i + k)
     go_wp2
     go_roundw
     case rel=>
      refine⟨i + 1,ol.set (i + k) carry,by omega,by go_num,HB.out.set _ _,by rw[List.length_set];exact HO.out,HDO.out.set _ _ hc0,?_,?_,HBE.out.setCell (Nat.le_refl _) _⟩
      ·intro j hj
       rw[na _ _ _ _ (by rw[HO.out];omega),if_neg (by omega)]
       exact HZO.out j (by omega)
      ·have hv:=ui 18446744073709551616 ol (i + k) carry (by rw[HO.out];omega)
       rw[HZO.out (i + k) (by omega),Nat.mul_zero,Nat.add_zero] at hv
       have:=HV.out
       rw[bg _ l' k (by have:=HS'.out.len;omega)] at this
       rw[hv,Nat.mul_comm (_ ^ (i + k)) carry,this,dj]
       generalize val 18446744073709551616 (l.take i)=A
       generalize 18446744073709551616 ^ i=Bi
       generalize l[i]?.getD 0=a
       grind
     all_goals first|(simp[intOf];done)|(simp[intOf];omega)
  ·obtain rfl:i=n:=by omega
   go_wp2_with fail
   refine (gw _ _ _ ol _ (by have:=HB.out.sl (by have:=HO.out;omega);rw[HO.out] at this;exact this) HDO.out).mono ?_
   rintro e w' ⟨j,hj,hcj,hvj,rfl,rfl⟩
   go_wp2
   go_ret
   refine⟨_,rfl,⟨_,_,_,_,rfl,(by have:=HB.out.sl (by have:=HO.out;omega);rw[HO.out] at this;exact this.take j hj),hcj,?_⟩,HBE.out⟩
   rw[hvj,HV.out,bg _ l i (by have:=HS.out.len;omega)]
theorem l_times_calls (ao bo:Option Addr) (n c m d:Nat) (l l':List Nat) (w:World) (hs:Sl .u64 w ao n c l) (hs':Sl .u64 w bo m d l') (hd:bi 18446744073709551616 l) (hd':bi 18446744073709551616 l')
  (hn:n≤1099511627776) (hm:m≤1099511627776):
  Calls Tryz.prog 47 #[.slice ao n c,.slice bo m d] w (RetL w (val 18446744073709551616 l * val 18446744073709551616 l')):=by
 by_cases h1:val 18446744073709551616 l=1
 ·have HN1:=Lib.hid (ck.sl hs hd)
  have HN2:=Lib.hid (ck.sl hs' hd')
  have H1:=Lib.hid h1;clear h1
  clear hs hs' hd hd'
  go_enter Tryz.func47,Tryz.ntmps47
  go_wp2_with fail
  refine (jf _ _ _ HN1.out).mono ?_
  rintro e w' ⟨rfl,rfl⟩
  rw[decide_eq_true H1.out]
  go_wp2
  go_ret
  refine⟨_,rfl,?_,Below.refl _ _⟩
  rw[H1.out,Nat.one_mul]
  exact HN2.out
 ·by_cases h2:val 18446744073709551616 l'=1
  ·have HN1:=Lib.hid (ck.sl hs hd)
   have HN2:=Lib.hid (ck.sl hs' hd')
   have H1:=Lib.hid h1;clear h1
   have H2:=Lib.hid h2;clear h2
   clear hs hs' hd hd'
   go_enter Tryz.func47,Tryz.ntmps47
   go_wp2_with fail
   refine (jf _ _ _ HN1.out).mono ?_
   rintro e w' ⟨rfl,rfl⟩
   rw[decide_eq_false H1.out]
   go_wp2_with fail
   refine (jf _ _ _ HN2.out).mono ?_
   rintro e w' ⟨rfl,rfl⟩
   rw[decide_eq_true H2.out]
   go_wp2
   go_ret
   refine⟨_,rfl,?_,Below.refl _ _⟩
   rw[H2.out,Nat.mul_one]
   exact HN1.out
  ·exact l_times_long _ _ _ _ _ _ _ _ _ hs hs' hd hd' hn hm h1 h2
end Go.Proofs.YtidmjdmmpajooaaGreat
