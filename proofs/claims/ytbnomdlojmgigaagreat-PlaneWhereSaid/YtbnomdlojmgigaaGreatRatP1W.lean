/-
  The contracts of the program's fractions, first part: the naturals' contracts said of values; under, reduced, size, Int, New.
-/
import Derived.Test.YtbnomdlojmgigaaGreatPkW8W
import Derived.Test.YtbnomdlojmgigaaGreatPkW1W
import Derived.Test.YtbnomdlojmgigaaGreatRefRat4W
set_option linter.unusedSimpArgs false
set_option linter.unusedVariables false
set_option maxRecDepth 100000
set_option maxHeartbeats 2000000
namespace Go.Proofs.YtbnomdlojmgigaaGreat
open Go.RowKit Dg
attribute [local go_sem ↓] Go.wp_at_zero Go.wp_at_succ
section
variable {w w':World}
instance {k:IntKind} {B x:Nat} {v:Value}:Mv (ck k B w v x) w w' (ck k B w' v x):=⟨fun hb h=>h.mono hb⟩
instance {B x:Nat} {v:Value}:Mk (ck .u64 B w v x) w w' (ck .u64 B w' v x):=⟨fun hb h=>h.keep hb⟩
instance {B x:Nat} {v:Value}:Mk (ck .u32 B w v x) w w' (ck .u32 B w' v x):=⟨fun hb h=>h.keep hb⟩
instance {k:IntKind} {ao:Option Addr} {n c:Nat} {l:List Nat}:Mv (Sl k w ao n c l) w w' (Sl k w' ao n c l):=⟨fun hb h=>h.mono hb⟩
end
theorem ck.szP {w:World} {v:Value} {x K:Nat} (h:ck .u64 18446744073709551616 w v x) (hx:x < 18446744073709551616 ^ K):uw .u64 18446744073709551616 K w v x:=by
 obtain⟨ao,n,c,l,e,hs,hc,hv⟩:=h
 refine⟨ao,n,c,l,e,hs,hc,hv,?_⟩
 have:=hc.length_le (by omega) (by rw[hv];exact hx)
 rwa [hs.len] at this
theorem ln_word (x:Nat) (w:World) (h:x < 18446744073709551616):Calls Tryz.prog 80 #[.int .u64 (x:Int)] w (ux .u64 18446744073709551616 w x):=qx x w h
theorem ln_plus {v1 v2:Value} {x y K:Nat} {w:World} (h1:ck .u64 18446744073709551616 w v1 x) (h2:ck .u64 18446744073709551616 w v2 y) (hx:x < 18446744073709551616 ^ K) (hy:y < 18446744073709551616 ^ K) (hK:K≤1099511627776):
  Calls Tryz.prog 44 #[v1,v2] w (ux .u64 18446744073709551616 w (x + y)):=by
 obtain⟨a1,n1,c1,l1,rfl,B1,B4,rfl,Ba⟩:=h1.szP hx
 obtain⟨a2,n2,c2,l2,rfl,B6,B5,rfl,hn2⟩:=h2.szP hy
 exact l_plus_calls _ _ _ _ _ _ _ _ _ B1 B6 B4 B5 (by omega) (by omega)
theorem ln_minus {v1 v2:Value} {x y K:Nat} {w:World} (h1:ck .u64 18446744073709551616 w v1 x) (h2:ck .u64 18446744073709551616 w v2 y) (hx:x < 18446744073709551616 ^ K) (hy:y≤x) (hK:K≤1099511627776):
  Calls Tryz.prog 46 #[v1,v2] w (ux .u64 18446744073709551616 w (x - y)):=by
 obtain⟨a1,n1,c1,l1,rfl,B1,B4,rfl,Ba⟩:=h1.szP hx
 obtain⟨a2,n2,c2,l2,rfl,B6,B5,rfl⟩:=h2
 exact l_minus_calls _ _ _ _ _ _ _ _ _ B1 B6 B4 B5 (by omega) hy
theorem kj {v1 v2:Value} {x y K L:Nat} {w:World} (h1:ck .u64 18446744073709551616 w v1 x) (h2:ck .u64 18446744073709551616 w v2 y) (hx:x < 18446744073709551616 ^ K) (hy:y < 18446744073709551616 ^ L) (hK:K≤1099511627776) (hL:L≤1099511627776):
  Calls Tryz.prog 43 #[v1,v2] w (ux .u64 18446744073709551616 w (x * y)):=by
 obtain⟨a1,n1,c1,l1,rfl,B1,B4,rfl,Ba⟩:=h1.szP hx
 obtain⟨a2,n2,c2,l2,rfl,B6,B5,rfl,hn2⟩:=h2.szP hy
 exact l_times_calls _ _ _ _ _ _ _ _ _ B1 B6 B4 B5 (by omega) (by omega)
theorem ur {v1 v2:Value} {x y:Nat} {w:World} (h1:ck .u64 18446744073709551616 w v1 x) (h2:ck .u64 18446744073709551616 w v2 y):
  Calls Tryz.prog 45 #[v1,v2] w (fj w (.int .i64 (gn x y))):=by
 obtain⟨a1,n1,c1,l1,rfl,B1,B4,rfl⟩:=h1
 obtain⟨a2,n2,c2,l2,rfl,B6,B5,rfl⟩:=h2
 exact (mj _ _ _ _ _ _ _ _ _ B1 B6 B4 B5).mono fun e w' ⟨q,he,hw⟩=>⟨he,by rw[hw];exact yw w q⟩
theorem qn {v:Value} {x:Nat} {w:World} (h:ck .u64 18446744073709551616 w v x):Calls Tryz.prog 78 #[v] w (fj w (.bool (decide (x=1)))):=
 (jf v x w h).mono fun e w' ⟨he,hw⟩=>⟨he,by rw[←hw];exact Below.refl _ _⟩
theorem ln_gcd {v1 v2:Value} {x y K:Nat} {w:World} (h1:ck .u64 18446744073709551616 w v1 x) (h2:ck .u64 18446744073709551616 w v2 y) (hx:x < 18446744073709551616 ^ K) (hy:y < 18446744073709551616 ^ K) (hK:K≤1099511627774):
  Calls Tryz.prog 77 #[v1,v2] w (ux .u64 18446744073709551616 w (Nat.gcd x y)):=by
 obtain⟨a1,n1,c1,l1,rfl,B1,B4,rfl,Ba⟩:=h1.szP hx
 obtain⟨a2,n2,c2,l2,rfl,B6,B5,rfl,hn2⟩:=h2.szP hy
 exact l_gcd_calls _ _ _ _ _ _ _ _ _ B1 B6 B4 B5 (by omega) (by omega)
theorem ln_divide {v1 v2:Value} {x y K:Nat} {w:World} (h1:ck .u64 18446744073709551616 w v1 x) (h2:ck .u64 18446744073709551616 w v2 y) (hx:x < 18446744073709551616 ^ K) (hy:0 < y) (hK:K≤1099511627774):
  Calls Tryz.prog 79 #[v1,v2] w (pu .u64 18446744073709551616 w (x / y) (x % y)):=by
 obtain⟨a1,n1,c1,l1,rfl,B1,B4,rfl,Ba⟩:=h1.szP hx
 obtain⟨a2,n2,c2,l2,rfl,B6,B5,rfl⟩:=h2
 exact ot _ _ _ _ _ _ _ _ _ B1 B6 B4 B5 (by omega) hy
theorem tx {v1:Value} {x K:Nat} {w:World} (h1:ck .u64 18446744073709551616 w v1 x) (hx:x < 18446744073709551616 ^ K) (hK:K≤536870912):
  Calls Tryz.prog 69 #[v1] w (fj w (ib (dw x))):=by
 obtain⟨a1,n1,c1,l1,rfl,B1,B4,rfl,Ba⟩:=h1.szP hx
 exact l_text_calls _ _ _ _ _ B1 B4 (by omega)
theorem load_P {w:World} {g:Nat} {u0 u1 u2:Value} {t:TypeId} (h:Bx w g t #[u0,u1,u2]):(loadVar 35 ⟨g,0,none⟩).run Tryz.prog w=.ok (.agg #[u0,u1,u2]) w:=by
 have h0:=h.at 0 rfl
 have h1:=h.at 1 rfl
 have h2:=h.at 2 rfl
 simp[go_sem,h0,h1,h2]
theorem mx {fn:Func} {p:Tmp} {w0 w:World} {g:Nat} {q:Rat} {v1 v2 v3:Value} {t:TypeId} {a:Act} (hr:fn.results=#[.cell p 35]) (ha:a.tmps.getD p undef=.pointer (some ⟨g,0,none⟩)) (hdef:a.defers=[])
  (hbox:Bx w g t #[v1,v2,v3]) (h:PV w (.agg #[v1,v2,v3]) q) (hb:Below w0.heap.size w0 w):bodyPost Tryz.prog fn (mp w0 q) .ret a w:=
 bodyPost_ret (v:=.agg #[v1,v2,v3]) (by rw[ul hr,ha];exact load_P hbox) hdef ⟨_,rfl,h,hb⟩
theorem ret_PE {fn:Func} {p u:Tmp} {w0 w:World} {g:Nat} {q:Rat} {v1 v2 v3:Value} {t:TypeId} {a:Act} {err:Int} (hr:fn.results=#[.cell p 35,.tmp u]) (ha:a.tmps.getD p undef=.pointer (some ⟨g,0,none⟩)) (hu:a.tmps.getD u undef=.int .i64 err) (hdef:a.defers=[])
  (hbox:Bx w g t #[v1,v2,v3]) (h:PV w (.agg #[v1,v2,v3]) q) (hb:Below w0.heap.size w0 w):bodyPost Tryz.prog fn (RetPE w0 q err) .ret a w:=by
 refine bodyPost_ret (v:=.tuple #[.agg #[v1,v2,v3],.int .i64 err]) ?_ hdef ⟨_,rfl,h,hb⟩
 rw[results_cell_tmp hr,ha,hu]
 simp only[asAddr,Sem.run_pure,Result.andThen_ok]
 rw[load_P hbox]
 rfl
theorem PV.of_eq {w:World} {v:Value} {q q':Rat} (h:PV w v q) (e:q=q'):PV w v q':=e ▸ h
theorem PV.zero (w:World):PV w (.agg #[.bool false,.slice none 0 0,.slice none 0 0]) 0:=
 PV.mk' ⟨_,_,_,[],rfl,Sl.empty _ _ _ _ (by omega) (fun _=>rfl),bi.nil _,rfl⟩ ⟨_,_,_,[],rfl,Sl.empty _ _ _ _ (by omega) (fun _=>rfl),bi.nil _,rfl⟩ (n:=0) (d:=0) rfl rfl rfl
theorem gz (v:Value) (q:Nat) (w:World) (h0:0 < q) (h:ck .u64 18446744073709551616 w v (if q=1 then 0 else q)):Calls Tryz.prog 42 #[v] w (ux .u64 18446744073709551616 w q):=by
 by_cases h1:q=1
 ·subst h1
  rw[if_pos rfl] at h
  obtain⟨ao,n,c,l,rfl,hs,hc,hv⟩:=h
  obtain rfl:=hc.nil_of (by omega) hv
  have:=hs.len
  simp at this
  subst this
  clear hs hc hv
  go_enter Tryz.func42,Tryz.ntmps42
  go_wp2_with fail
  refine (ln_word 1 _ (by omega)).mono ?_
  rintro e w1 ⟨_,rfl,hq,hb⟩
  go_wp2
  go_ret
  exact⟨_,rfl,hq,hb⟩
 rw[if_neg h1] at h
 obtain⟨ao,n,c,l,rfl,hs,hc,hv⟩:=h
 have hn:n≤9223372036854775807:=by have:=hs.cap;have:=hs.max;omega
 have hn0:0 < n:=by
  have:=hc.length_pos_iff (by omega)
  rw[hs.len,hv] at this
  exact this.2 h0
 have Ba:((n:Int) == 0)=false:=by rw[beq_eq_false_iff_ne];omega
 have HS:=ae hs
 have HC:=ae hc
 have HV:=ae hv
 clear hs hc hv h1
 go_enter Tryz.func42,Tryz.ntmps42
 go_wp2
 go_ret
 exact⟨_,rfl,⟨_,_,_,_,rfl,HS.out,HC.out,HV.out⟩,Below.refl _ _⟩
theorem jd9 (neg:Bool) (a1:Option Addr) (c1:Nat) (vd:Value) (w:World):Calls Tryz.prog 39 #[.bool neg,.slice a1 0 c1,vd] w (mp w 0):=by
 go_enter Tryz.func39,Tryz.ntmps39
 go_wp2
 have hs:=Below.refl w.heap.size w
 refine bodyPost.abs ?_
 intro w1 hW
 have B7:=hs.size
 have B1:Below w.heap.size w w1:=by rw[hW];exact (Below.alloc hs (by first|exact hs.size|(have:=hs.size;simp;done)|(have:=hs.size;simp;omega)) _)
 have hk:aw w w1:=by rw[hW];exact ((aw.refl _).alloc _)
 have B2:Bx w1 (w.heap.size) 35 #[.bool false,.slice none 0 0,.slice none 0 0]:=by rw[hW];exact (Bx.new' _ _ _ _ (by first|rfl|(simp;done)))
 replace hs:=B1
 clear B1
 have B0:=B2
 clear B2
 clear hW hk B7
 have Bh:=B0.lt
 exact mx rfl rfl rfl B0 (PV.zero _) hs
theorem p_reduced_pos (neg:Bool) (a1 a2:Option Addr) (n1 c1 n2 c2 n d K:Nat) (w:World) (hn:ck .u64 18446744073709551616 w (.slice a1 n1 c1) n) (hd:ck .u64 18446744073709551616 w (.slice a2 n2 c2) d)
  (hn0:0 < n) (hd0:0 < d) (hK:K≤1099511627774) (zn:n < 18446744073709551616 ^ K) (zd:d < 18446744073709551616 ^ K):
  Calls Tryz.prog 39 #[.bool neg,.slice a1 n1 c1,.slice a2 n2 c2] w (mp w (mkQ neg n d)):=by
 have Ba:((n1:Int) == 0)=false:=by
  obtain⟨ao,n',c,l,e,hs,hc,hv⟩:=hn
  injection e with e1 e2 e3
  subst e2
  have:=hc.length_pos_iff (by omega)
  rw[hs.len,hv] at this
  rw[beq_eq_false_iff_ne];have:=this.2 hn0;omega
 have hn1':n1≤9223372036854775807:=by
  obtain⟨ao,n',c,l,e,hs,hc,hv⟩:=hn
  injection e with e1 e2 e3
  subst e2
  have:=hs.cap;have:=hs.max;omega
 have hq1:=ut neg n d (by omega)
 have hq2:=mkQ_den neg n d (by omega)
 have hq3:=mkQ_ng neg n d (by omega) (by omega)
 generalize mkQ neg n d=q at *
 have hG0:=Nat.gcd_pos_of_pos_left d hn0
 have hdn:=Nat.div_pos (Nat.le_of_dvd hd0 (Nat.gcd_dvd_right n d)) hG0
 generalize hG:Nat.gcd n d=G at *
 have HG:=ae hG
 have Be:=ae hq1
 have Bf:=ae hq2
 have Bg:=ae hq3
 have HDN:=ae hdn
 clear hG hq1 hq2 hq3 hdn
 go_enter Tryz.func39,Tryz.ntmps39
 have hs:=Below.refl w.heap.size w
 go_wp2_with fail
 refine Calls.abs ?_
 intro w1 hW
 have B7:=hs.size
 have B1:Below w.heap.size w w1:=by rw[hW];exact (Below.alloc hs (by first|exact hs.size|(have:=hs.size;simp;done)|(have:=hs.size;simp;omega)) _)
 have hk:aw w w1:=by rw[hW];exact ((aw.refl _).alloc _)
 have B2:Bx w1 (w.heap.size) 35 #[.bool false,.slice none 0 0,.slice none 0 0]:=by rw[hW];exact (Bx.new' _ _ _ _ (by first|rfl|(simp;done)))
 replace hs:=B1
 clear B1
 have B0:=B2
 clear B2
 revert hd;revert hn;refine ke hk ?_;intro hn hd
 clear hW hk B7
 have Bh:=B0.lt
 refine (ln_gcd hn hd zn zd hK).mono ?_
 rintro e w2 ⟨_,rfl,hg,hb⟩
 obtain⟨ahg,nhg,chg,rfl⟩:=hg.shape
 revert hd;revert hn;revert B0;refine mS hs hb ?_;clear hs hb;intro hs B0 hn hd
 rw[HG.out] at hg
 by_cases B8:G=1
 ·have B3:decide (G=1)=true:=by simp[B8]
  have HG1:=ae B8
  clear B8
  go_wp2_with fail
  refine (qn hg).mono ?_
  rintro e w3 ⟨rfl,hb⟩
  revert hg B0 hn hd;refine mS hs hb ?_;clear hs hb;intro hs hg B0 hn hd
  rw[B3]
  clear B3
  have B8:=HG1.out
  by_cases hD1:d=1
  ·have B3:decide (d=1)=true:=by simp[hD1]
   have B9:=ae hD1
   clear hD1
   go_wp2_with fail
   refine (qn hd).mono ?_
   rintro e w4 ⟨rfl,hb⟩
   revert hg B0 hn hd;refine mS hs hb ?_;clear hs hb;intro hs hg B0 hn hd
   rw[B3]
   clear B3
   refine B0.k3f fun Bb Bc Bd fz=>?_
   go_wp2
   refine bodyPost.abs ?_
   intro w5 hW
   have B7:=hs.size
   have lz:=B0.lt
   have B1:Below w.heap.size w w5:=by rw[hW];exact (Below.setCell (Below.setCell (Below.setCell hs (by first|exact ag _|omega|(have:=hs.size;simp;done)|(have:=hs.size;simp;omega)) _) (by first|exact ag _|omega|(have:=hs.size;simp;done)|(have:=hs.size;simp;omega)) _) (by first|exact ag _|omega|(have:=hs.size;simp;done)|(have:=hs.size;simp;omega)) _)
   have hk:aw w4 w5:=by rw[hW];exact (aw.set (aw.set (aw.set (aw.refl _) B0.ty (by decide) _ _) (TyB.store B0.ty _ _) (by decide) _ _) (TyB.store (TyB.store B0.ty _ _) _ _) (by decide) _ _)
   have B2:Bx w5 (w.heap.size) 35 #[.bool neg,.slice a1 n1 c1,.slice none 0 0]:=by rw[hW];exact (Bx.set (Bx.set (Bx.set B0 0 _ rfl) 1 _ rfl) 2 _ rfl)
   replace hs:=B1
   clear B1
   replace B0:=B2
   clear B2
   revert hg hn hd;refine ke hk ?_;intro hg hn hd
   clear hW hk B7 lz
   refine mx rfl rfl rfl B0 (PV.mk' hn (d:=0) ⟨_,_,_,[],rfl,Sl.empty _ _ _ _ (by omega) (fun _=>rfl),bi.nil _,rfl⟩ Bg.out.symm ?_ ?_) hs
   ·rw[Be.out,B8,Nat.div_one]
   rw[Bf.out,B8,Nat.div_one,if_pos]
   exact B9.out
  have B3:decide (d=1)=false:=by simp[hD1]
  have B9:=ae hD1
  clear hD1
  go_wp2_with fail
  refine (qn hd).mono ?_
  rintro e w4 ⟨rfl,hb⟩
  revert hg B0 hn hd;refine mS hs hb ?_;clear hs hb;intro hs hg B0 hn hd
  rw[B3]
  clear B3
  refine B0.k3f fun Bb Bc Bd fz=>?_
  go_wp2
  refine bodyPost.abs ?_
  intro w5 hW
  have B7:=hs.size
  have lz:=B0.lt
  have B1:Below w.heap.size w w5:=by rw[hW];exact (Below.setCell (Below.setCell (Below.setCell hs (by first|exact ag _|omega|(have:=hs.size;simp;done)|(have:=hs.size;simp;omega)) _) (by first|exact ag _|omega|(have:=hs.size;simp;done)|(have:=hs.size;simp;omega)) _) (by first|exact ag _|omega|(have:=hs.size;simp;done)|(have:=hs.size;simp;omega)) _)
  have hk:aw w4 w5:=by rw[hW];exact (aw.set (aw.set (aw.set (aw.refl _) B0.ty (by decide) _ _) (TyB.store B0.ty _ _) (by decide) _ _) (TyB.store (TyB.store B0.ty _ _) _ _) (by decide) _ _)
  have B2:Bx w5 (w.heap.size) 35 #[.bool neg,.slice a1 n1 c1,.slice a2 n2 c2]:=by rw[hW];exact (Bx.set (Bx.set (Bx.set B0 0 _ rfl) 1 _ rfl) 2 _ rfl)
  replace hs:=B1
  clear B1
  replace B0:=B2
  clear B2
  revert hg hn hd;refine ke hk ?_;intro hg hn hd
  clear hW hk B7 lz
  refine mx rfl rfl rfl B0 (PV.mk' hn (d:=d) hd Bg.out.symm ?_ ?_) hs
  ·rw[Be.out,B8,Nat.div_one]
  rw[Bf.out,B8,Nat.div_one,if_neg]
  exact B9.out
 have B3:decide (G=1)=false:=by simp[B8]
 clear B8
 go_wp2_with fail
 refine (qn hg).mono ?_
 rintro e w3 ⟨rfl,hb⟩
 revert hg B0 hn hd;refine mS hs hb ?_;clear hs hb;intro hs hg B0 hn hd
 rw[B3]
 clear B3
 go_wp2_with fail
 refine (ln_divide hn hg zn hG0 hK).mono ?_
 rintro e w4 ⟨_,_,rfl,hN,hN',hb⟩
 obtain⟨ahN,nhN,chN,rfl⟩:=hN.shape
 obtain⟨_,_,_,rfl⟩:=hN'.shape
 clear hN'
 revert hd;revert hn;revert B0;revert hg;refine mS hs hb ?_;clear hs hb;intro hs hg B0 hn hd
 go_wp2_with fail
 refine (ln_divide hd hg zd hG0 hK).mono ?_
 rintro e w5 ⟨_,_,rfl,hD,hD',hb⟩
 obtain⟨ahD,nhD,chD,rfl⟩:=hD.shape
 obtain⟨_,_,_,rfl⟩:=hD'.shape
 clear hD'
 revert hd;revert hn;revert B0;revert hg;revert hN;refine mS hs hb ?_;clear hs hb;intro hs hN hg B0 hn hd
 by_cases hD1:(d / G)=1
 ·have B3:decide ((d / G)=1)=true:=by simp[hD1]
  have B9:=ae hD1
  clear hD1
  go_wp2_with fail
  refine (qn hD).mono ?_
  rintro e w6 ⟨rfl,hb⟩
  revert hD hN hg B0 hn hd;refine mS hs hb ?_;clear hs hb;intro hs hD hN hg B0 hn hd
  rw[B3]
  clear B3
  refine B0.k3f fun Bb Bc Bd fz=>?_
  go_wp2
  refine bodyPost.abs ?_
  intro w7 hW
  have B7:=hs.size
  have lz:=B0.lt
  have B1:Below w.heap.size w w7:=by rw[hW];exact (Below.setCell (Below.setCell (Below.setCell hs (by first|exact ag _|omega|(have:=hs.size;simp;done)|(have:=hs.size;simp;omega)) _) (by first|exact ag _|omega|(have:=hs.size;simp;done)|(have:=hs.size;simp;omega)) _) (by first|exact ag _|omega|(have:=hs.size;simp;done)|(have:=hs.size;simp;omega)) _)
  have hk:aw w6 w7:=by rw[hW];exact (aw.set (aw.set (aw.set (aw.refl _) B0.ty (by decide) _ _) (TyB.store B0.ty _ _) (by decide) _ _) (TyB.store (TyB.store B0.ty _ _) _ _) (by decide) _ _)
  have B2:Bx w7 (w.heap.size) 35 #[.bool neg,.slice ahN nhN chN,.slice none 0 0]:=by rw[hW];exact (Bx.set (Bx.set (Bx.set B0 0 _ rfl) 1 _ rfl) 2 _ rfl)
  replace hs:=B1
  clear B1
  replace B0:=B2
  clear B2
  revert hD hN hg hn hd;refine ke hk ?_;intro hD hN hg hn hd
  clear hW hk B7 lz
  refine mx rfl rfl rfl B0 (PV.mk' hN (d:=0) ⟨_,_,_,[],rfl,Sl.empty _ _ _ _ (by omega) (fun _=>rfl),bi.nil _,rfl⟩ Bg.out.symm ?_ ?_) hs
  ·rw[Be.out]
  rw[Bf.out,if_pos]
  exact B9.out
 have B3:decide ((d / G)=1)=false:=by simp[hD1]
 have B9:=ae hD1
 clear hD1
 go_wp2_with fail
 refine (qn hD).mono ?_
 rintro e w6 ⟨rfl,hb⟩
 revert hD hN hg B0 hn hd;refine mS hs hb ?_;clear hs hb;intro hs hD hN hg B0 hn hd
 rw[B3]
 clear B3
 refine B0.k3f fun Bb Bc Bd fz=>?_
 go_wp2
 refine bodyPost.abs ?_
 intro w7 hW
 have B7:=hs.size
 have lz:=B0.lt
 have B1:Below w.heap.size w w7:=by rw[hW];exact (Below.setCell (Below.setCell (Below.setCell hs (by first|exact ag _|omega|(have:=hs.size;simp;done)|(have:=hs.size;simp;omega)) _) (by first|exact ag _|omega|(have:=hs.size;simp;done)|(have:=hs.size;simp;omega)) _) (by first|exact ag _|omega|(have:=hs.size;simp;done)|(have:=hs.size;simp;omega)) _)
 have hk:aw w6 w7:=by rw[hW];exact (aw.set (aw.set (aw.set (aw.refl _) B0.ty (by decide) _ _) (TyB.store B0.ty _ _) (by decide) _ _) (TyB.store (TyB.store B0.ty _ _) _ _) (by decide) _ _)
 have B2:Bx w7 (w.heap.size) 35 #[.bool neg,.slice ahN nhN chN,.slice ahD nhD chD]:=by rw[hW];exact (Bx.set (Bx.set (Bx.set B0 0 _ rfl) 1 _ rfl) 2 _ rfl)
 replace hs:=B1
 clear B1
 replace B0:=B2
 clear B2
 revert hD hN hg hn hd;refine ke hk ?_;intro hD hN hg hn hd
 clear hW hk B7 lz
 refine mx rfl rfl rfl B0 (PV.mk' hN (d:=(d / G)) hD Bg.out.symm ?_ ?_) hs
 ·rw[Be.out]
 rw[Bf.out,if_neg]
 exact B9.out
theorem ip (neg:Bool) (vn vd:Value) (n d K:Nat) (w:World) (hn:ck .u64 18446744073709551616 w vn n) (hd:ck .u64 18446744073709551616 w vd d) (hd0:0 < d) (hK:K≤1099511627774)
  (zn:n < 18446744073709551616 ^ K) (zd:d < 18446744073709551616 ^ K):Calls Tryz.prog 39 #[.bool neg,vn,vd] w (mp w (mkQ neg n d)):=by
 obtain⟨a2,n2,c2,rfl⟩:=hd.shape
 rcases Nat.eq_zero_or_pos n with h|h
 ·subst h
  obtain⟨ao,n',c,l,rfl,hs,hc,hv⟩:=hn
  obtain rfl:=hc.nil_of (by omega) hv
  have:=hs.len
  simp at this
  subst this
  rw[mkQ_zero]
  exact jd9 _ _ _ _ _
 obtain⟨a1,n1,c1,rfl⟩:=hn.shape
 exact p_reduced_pos neg _ _ _ _ _ _ n d K w hn hd h hd0 hK zn zd
end Go.Proofs.YtbnomdlojmgigaaGreat
