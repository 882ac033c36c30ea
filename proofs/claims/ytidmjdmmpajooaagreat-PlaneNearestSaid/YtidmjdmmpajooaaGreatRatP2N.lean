/-
  The contracts of the program's fractions, second part: size, Int, New, Zero, Sign, Abs, Neg, Mul, by, Div.
-/
import Derived.Test.YtidmjdmmpajooaaGreatPkV8N
import Derived.StillTailTactics
set_option linter.unusedSimpArgs false
set_option linter.unusedVariables false
set_option maxRecDepth 100000
set_option maxHeartbeats 4000000
namespace Go.Proofs.YtidmjdmmpajooaaGreat
open Go.RowKit Dg
attribute [local go_sem ↓] Go.wp_at_zero Go.wp_at_succ
theorem lt_pow1P {n:Nat} (h:n≤9223372036854775808):n < 18446744073709551616 ^ 1:=by omega
theorem rf (n:Int) (w:World) (h0: -9223372036854775808≤n) (h1:n≤9223372036854775807):Calls Tryz.prog 51 #[.int .i64 n] w (ux .u64 18446744073709551616 w n.natAbs):=by
 by_cases hn:n < 0
 ·go_enter Tryz.func51,Tryz.ntmps51
  go_wp2_with fail
  rw[show IntKind.u64.wrap (-IntKind.u64.wrap n)=((n.natAbs:Nat):Int) from by show (-(n % 18446744073709551616)) % 18446744073709551616=_;omega]
  refine (ln_word n.natAbs _ (by omega)).mono ?_
  rintro e w1 ⟨_,rfl,hv,hb⟩
  go_wp2
  go_ret
  exact⟨_,rfl,hv,hb⟩
 obtain⟨m,rfl⟩:=Int.eq_ofNat_of_zero_le (show 0≤n by omega)
 rw[Int.natAbs_natCast]
 go_enter Tryz.func51,Tryz.ntmps51
 go_wp2_with fail
 refine (ln_word m _ (by omega)).mono ?_
 rintro e w1 ⟨_,rfl,hv,hb⟩
 go_wp2
 go_ret
 exact⟨_,rfl,hv,hb⟩
theorem p_Int_calls (n:Int) (w:World) (h0: -9223372036854775808≤n) (h1:n≤9223372036854775807):Calls Tryz.prog 52 #[.int .i64 n] w (mp w (n:Rat)):=by
 have hng:decide (n < 0)=ng (n:Rat):=by unfold ng;rw[Rat.num_intCast]
 generalize hneg:decide (n < 0)=b at *
 have HNG:=ae hng
 clear hng
 go_enter Tryz.func52,Tryz.ntmps52
 have hs:=Below.refl w.heap.size w
 go_wp2_with fail
 refine Calls.abs ?_
 intro w1 hW
 have Bg:=hs.size
 have B4:Below w.heap.size w w1:=by rw[hW];exact (Below.alloc hs (by first|exact hs.size|(have:=hs.size;simp;done)|(have:=hs.size;simp;omega)) _)
 have hk:aw w w1:=by rw[hW];exact ((aw.refl _).alloc _)
 have B2:Bx w1 (w.heap.size) 37 #[.bool false,.slice none 0 0,.slice none 0 0]:=by rw[hW];exact (Bx.new' _ _ _ _ (by first|rfl|(simp;done)))
 replace hs:=B4
 clear B4
 have B0:=B2
 clear B2
 clear hW hk Bg
 have Bl:=B0.lt
 refine (rf n _ h0 h1).mono ?_
 rintro e w2 ⟨_,rfl,hm,hb⟩
 obtain⟨ahm,nhm,chm,rfl⟩:=hm.shape
 revert B0;refine mS hs hb ?_;clear hs hb;intro hs B0
 refine B0.k3f fun Bo Bp Bq fz=>?_
 go_wp2
 refine bodyPost.abs ?_
 intro w3 hW
 have Bg:=hs.size
 have lz:=B0.lt
 have B4:Below w.heap.size w w3:=by rw[hW];exact (Below.setCell (Below.setCell (Below.setCell hs (by first|exact ag _|omega|(have:=hs.size;simp;done)|(have:=hs.size;simp;omega)) _) (by first|exact ag _|omega|(have:=hs.size;simp;done)|(have:=hs.size;simp;omega)) _) (by first|exact ag _|omega|(have:=hs.size;simp;done)|(have:=hs.size;simp;omega)) _)
 have hk:aw w2 w3:=by rw[hW];exact (aw.set (aw.set (aw.set (aw.refl _) B0.ty (by decide) _ _) (TyB.store B0.ty _ _) (by decide) _ _) (TyB.store (TyB.store B0.ty _ _) _ _) (by decide) _ _)
 have B2:Bx w3 (w.heap.size) 37 #[.bool b,.slice ahm nhm chm,.slice none 0 0]:=by rw[hW];exact (Bx.set (Bx.set (Bx.set B0 0 _ rfl) 1 _ rfl) 2 _ rfl)
 replace hs:=B4
 clear B4
 replace B0:=B2
 clear B2
 replace hm:=hm.keep hk
 clear hW hk Bg lz
 exact mx rfl rfl rfl B0 (PV.mk' hm (d:=0) ⟨_,_,_,[],rfl,Sl.empty _ _ _ _ (by omega) (fun _=>rfl),bi.nil _,rfl⟩ HNG.out (by rw[Rat.num_intCast]) (by rw[Rat.den_intCast];rfl)) hs
theorem p_New_calls (n d:Int) (w:World) (h0: -9223372036854775808≤n) (h1:n≤9223372036854775807) (d0: -9223372036854775808≤d) (d1:d≤9223372036854775807) (hd:d≠0):Calls Tryz.prog 13 #[.int .i64 n,.int .i64 d] w (RetPE w ((n:Rat) / (d:Rat)) 0):=by
 rw[frac_mk n d hd]
 have z1:n.natAbs < 18446744073709551616 ^ 1:=lt_pow1P (by omega)
 have z2:d.natAbs < 18446744073709551616 ^ 1:=lt_pow1P (by omega)
 have o1:0 < d.natAbs:=by omega
 have o2:1≤1099511627774:=by omega
 have hd':(d == 0)=false:=by rw[beq_eq_false_iff_ne];exact hd
 have Z1:=ae z1
 have Z2:=ae z2
 clear z1 z2 hd
 generalize hneg:decide (n < 0)=b
 generalize hneg':decide (d < 0)=c
 go_enter Tryz.func13,Tryz.ntmps13
 have hs:=Below.refl w.heap.size w
 go_wp2_with fail
 refine Calls.abs ?_
 intro w1 hW
 have Bg:=hs.size
 have B4:Below w.heap.size w w1:=by rw[hW];exact (Below.alloc hs (by first|exact hs.size|(have:=hs.size;simp;done)|(have:=hs.size;simp;omega)) _)
 have hk:aw w w1:=by rw[hW];exact ((aw.refl _).alloc _)
 have B2:Bx w1 (w.heap.size) 37 #[.bool false,.slice none 0 0,.slice none 0 0]:=by rw[hW];exact (Bx.new' _ _ _ _ (by first|rfl|(simp;done)))
 replace hs:=B4
 clear B4
 have B0:=B2
 clear B2
 clear hW hk Bg
 have Bl:=B0.lt
 refine (rf n _ h0 h1).mono ?_
 rintro e w2 ⟨_,rfl,hm,hb⟩
 obtain⟨ahm,nhm,chm,rfl⟩:=hm.shape
 revert B0;refine mS hs hb ?_;clear hs hb;intro hs B0
 go_wp2_with fail
 refine (rf d _ d0 d1).mono ?_
 rintro e w3 ⟨_,rfl,C0,hb⟩
 obtain⟨ahm2,nhm2,chm2,rfl⟩:=C0.shape
 revert B0;revert hm;refine mS hs hb ?_;clear hs hb;intro hs hm B0
 go_wp2_with fail
 refine (ip _ _ _ _ _ _ _ hm C0 o1 o2 Z1.out Z2.out).mono ?_
 rintro e w4 ⟨_,rfl,hQ,hb⟩
 obtain⟨shQ,Bw,Bz,By,Bt,Bv,Bu,rfl⟩:=hQ.shape
 revert B0;revert hm;revert C0;refine mS hs hb ?_;clear hs hb;intro hs C0 hm B0
 refine B0.k3f fun Bo Bp Bq fz=>?_
 go_wp2
 refine bodyPost.abs ?_
 intro w5 hW
 have Bg:=hs.size
 have lz:=B0.lt
 have B4:Below w.heap.size w w5:=by rw[hW];exact (Below.setCell (Below.setCell (Below.setCell hs (by first|exact ag _|omega|(have:=hs.size;simp;done)|(have:=hs.size;simp;omega)) _) (by first|exact ag _|omega|(have:=hs.size;simp;done)|(have:=hs.size;simp;omega)) _) (by first|exact ag _|omega|(have:=hs.size;simp;done)|(have:=hs.size;simp;omega)) _)
 have hk:aw w4 w5:=by rw[hW];exact (aw.set (aw.set (aw.set (aw.refl _) B0.ty (by decide) _ _) (TyB.store B0.ty _ _) (by decide) _ _) (TyB.store (TyB.store B0.ty _ _) _ _) (by decide) _ _)
 have B2:Bx w5 (w.heap.size) 37 #[.bool shQ,.slice Bw Bz By,.slice Bt Bv Bu]:=by rw[hW];exact (Bx.set (Bx.set (Bx.set B0 0 _ rfl) 1 _ rfl) 2 _ rfl)
 replace hs:=B4
 clear B4
 replace B0:=B2
 clear B2
 revert hQ C0 hm;refine ke hk ?_;intro hQ C0 hm
 clear hW hk Bg lz
 exact ret_PE rfl rfl rfl rfl B0 (hQ.of_eq (by cases b<;>cases c<;>rfl)) hs
theorem iq (vx:Value) (x:Rat) (w:World) (hx:PV w vx x):Calls Tryz.prog 46 #[vx] w (fj w (.bool (decide (x=0)))):=by
 obtain⟨gx,ax,nx,cx,Ax,Nx,Cx,rfl⟩:=hx.shape
 have Bi:=hx.sign
 have Br:=ae Bi
 have Bc:=hx.parts.2.1
 have Bd:=hx.parts.2.2
 have hb:nx≤9223372036854775807:=by
  obtain⟨ao,n,c,l,e,C7,hcl,hvl⟩:=Bc
  cases e
  have:=C7.cap;have:=C7.max;omega
 have Bs:decide (x=0)=((nx:Int) == 0):=by
  obtain⟨ao,n,c,l,e,C7,hcl,hvl⟩:=Bc
  cases e
  rw[Bool.eq_iff_iff,decide_eq_true_eq,beq_iff_eq,←jd,←hvl]
  have:=hcl.length_pos_iff (by omega)
  rw[C7.len] at this
  omega
 rw[Bs]
 clear Bs Bc Bd hx
 clear Bi
 go_enter Tryz.func46,Tryz.ntmps46
 go_wp2
 go_ret
 exact⟨rfl,(Below.refl _ _).alloc (ag _) _⟩
theorem jb (vx:Value) (x:Rat) (w:World) (hx:PV w vx x):Calls Tryz.prog 11 #[vx] w (fj w (.int .i64 (sgQ x))):=by
 obtain⟨gx,ax,nx,cx,Ax,Nx,Cx,rfl⟩:=hx.shape
 have Bi:=hx.sign
 have Br:=ae Bi
 have C8:sgQ x=if ng x then -1 else if decide (x=0) then 0 else 1:=by
  unfold sgQ ng
  by_cases h0:x=0
  ·subst h0;decide
  have hn0:x.num≠0:=fun h=>h0 (Rat.num_eq_zero.1 h)
  by_cases hneg:x.num < 0<;>simp[h0,hn0,hneg]
 rw[C8,←Bi]
 clear C8
 generalize Bs:decide (x=0)=z at *
 clear Bi
 have hs:=Below.refl w.heap.size w
 cases gx<;>cases z
 ·go_enter Tryz.func11,Tryz.ntmps11
  go_wp2_with fail
  refine Calls.abs ?_
  intro w1 hW
  have Bg:=hs.size
  have B4:Below w.heap.size w w1:=by rw[hW];exact (Below.alloc hs (by first|exact hs.size|(have:=hs.size;simp;done)|(have:=hs.size;simp;omega)) _)
  have hk:aw w w1:=by rw[hW];exact ((aw.refl _).alloc _)
  have B3:Bx w1 (w.heap.size) 37 #[.bool false,.slice ax nx cx,.slice Ax Nx Cx]:=by rw[hW];exact (Bx.new' _ _ _ _ (by first|rfl|(simp;done)))
  replace hs:=B4
  clear B4
  have B1:=B3
  clear B3
  replace hx:=hx.keep hk
  clear hW hk Bg
  have Bl:=B1.lt
  refine (iq _ _ _ hx).mono ?_
  rintro e w2 ⟨rfl,hb⟩
  revert B1 hx;refine mS hs hb ?_;clear hs hb;intro hs B1 hx
  rw[Bs]
  go_wp2
  go_ret
  exact⟨rfl,hs⟩
 ·go_enter Tryz.func11,Tryz.ntmps11
  go_wp2_with fail
  refine Calls.abs ?_
  intro w1 hW
  have Bg:=hs.size
  have B4:Below w.heap.size w w1:=by rw[hW];exact (Below.alloc hs (by first|exact hs.size|(have:=hs.size;simp;done)|(have:=hs.size;simp;omega)) _)
  have hk:aw w w1:=by rw[hW];exact ((aw.refl _).alloc _)
  have B3:Bx w1 (w.heap.size) 37 #[.bool false,.slice ax nx cx,.slice Ax Nx Cx]:=by rw[hW];exact (Bx.new' _ _ _ _ (by first|rfl|(simp;done)))
  replace hs:=B4
  clear B4
  have B1:=B3
  clear B3
  replace hx:=hx.keep hk
  clear hW hk Bg
  have Bl:=B1.lt
  refine (iq _ _ _ hx).mono ?_
  rintro e w2 ⟨rfl,hb⟩
  revert B1 hx;refine mS hs hb ?_;clear hs hb;intro hs B1 hx
  rw[Bs]
  go_wp2
  go_ret
  exact⟨rfl,hs⟩
 all_goals
  go_enter Tryz.func11,Tryz.ntmps11
  go_wp2
  go_ret
  exact⟨rfl,(Below.refl _ _).alloc (ag _) _⟩
theorem ng_abs (x:Rat):ng (up x)=false:=by
 unfold up ng
 by_cases h:x.num < 0
 ·simp only[h,decide_true,if_true,Rat.neg_num];rw[decide_eq_false_iff_not];omega
 simp[h]
theorem absQ_num (x:Rat):(up x).num.natAbs=x.num.natAbs:=by unfold up;split<;>simp[Rat.neg_num]
theorem absQ_den (x:Rat):(up x).den=x.den:=by unfold up;split<;>simp[Rat.neg_den]
theorem PV.abs {w:World} {x:Rat} {s v1 v2:Value} (h:PV w (.agg #[s,v1,v2]) x):PV w (.agg #[.bool false,v1,v2]) (up x):=by
 obtain⟨_,h1,h2⟩:=h.parts
 exact PV.mk' h1 h2 (ng_abs x).symm (absQ_num x).symm (by rw[absQ_den])
theorem PV.neg {w:World} {x:Rat} {s v1 v2:Value} {b:Bool} (h:PV w (.agg #[s,v1,v2]) x) (hb:b=(!ng x && !decide (x=0))):PV w (.agg #[.bool b,v1,v2]) (-x):=by
 obtain⟨_,h1,h2⟩:=h.parts
 exact PV.mk' h1 h2 (by rw[hb,ng_neg];simp) (by rw[Rat.neg_num,Int.natAbs_neg]) (by rw[Rat.neg_den])
theorem p_Abs_calls (vx:Value) (x:Rat) (w:World) (hx:PV w vx x):Calls Tryz.prog 96 #[vx] w (mp w (up x)):=by
 obtain⟨gx,ax,nx,cx,Ax,Nx,Cx,rfl⟩:=hx.shape
 have Bi:=hx.sign
 have Br:=ae Bi
 have hQ:=hx.abs
 clear hx
 clear Bi
 have hs:=Below.refl w.heap.size w
 go_enter Tryz.func96,Tryz.ntmps96
 go_wp2
 refine bodyPost.abs ?_
 intro w1 hW
 have Bg:=hs.size
 have B4:Below w.heap.size w w1:=by rw[hW];exact (Below.alloc (Below.alloc hs (by first|exact hs.size|(have:=hs.size;simp;done)|(have:=hs.size;simp;omega)) _) (by first|exact hs.size|(have:=hs.size;simp;done)|(have:=hs.size;simp;omega)) _)
 have hk:aw w w1:=by rw[hW];exact (((aw.refl _).alloc _).alloc _)
 have B3:Bx w1 (w.heap.size) 37 #[.bool gx,.slice ax nx cx,.slice Ax Nx Cx]:=by rw[hW];exact ((Bx.new' _ _ _ _ (by first|rfl|(simp;done))).alloc _)
 have B2:Bx w1 (w.heap.size + 1) 37 #[.bool false,.slice ax nx cx,.slice Ax Nx Cx]:=by rw[hW];exact (Bx.new' _ _ _ _ (by first|rfl|(simp;done)))
 replace hs:=B4
 clear B4
 have B1:=B3
 clear B3
 have B0:=B2
 clear B2
 replace hQ:=hQ.keep hk
 clear hW hk Bg
 have Bl:=B0.lt
 exact mx rfl rfl rfl B0 hQ hs
theorem p_Neg_calls (vx:Value) (x:Rat) (w:World) (hx:PV w vx x):Calls Tryz.prog 184 #[vx] w (mp w (-x)):=by
 obtain⟨gx,ax,nx,cx,Ax,Nx,Cx,rfl⟩:=hx.shape
 have Bi:=hx.sign
 have Br:=ae Bi
 have hs:=Below.refl w.heap.size w
 clear Bi
 cases gx
 ·go_enter Tryz.func184,Tryz.ntmps184
  go_wp2_with fail
  refine Code.abs ?_
  intro w1 hW
  have Bg:=hs.size
  have B4:Below w.heap.size w w1:=by rw[hW];exact (Below.alloc (Below.alloc hs (by first|exact hs.size|(have:=hs.size;simp;done)|(have:=hs.size;simp;omega)) _) (by first|exact hs.size|(have:=hs.size;simp;done)|(have:=hs.size;simp;omega)) _)
  have hk:aw w w1:=by rw[hW];exact (((aw.refl _).alloc _).alloc _)
  have B3:Bx w1 (w.heap.size) 37 #[.bool false,.slice ax nx cx,.slice Ax Nx Cx]:=by rw[hW];exact ((Bx.new' _ _ _ _ (by first|rfl|(simp;done))).alloc _)
  have B2:Bx w1 (w.heap.size + 1) 37 #[.bool false,.slice none 0 0,.slice none 0 0]:=by rw[hW];exact (Bx.new' _ _ _ _ (by first|rfl|(simp;done)))
  replace hs:=B4
  clear B4
  have B1:=B3
  clear B3
  have B0:=B2
  clear B2
  replace hx:=hx.keep hk
  clear hW hk Bg
  have Bl:=B0.lt
  have hb:=de w1
  revert B1 B0 hx;refine mS hs hb ?_;clear hs hb;intro hs B1 B0 hx
  refine B1.k3 fun B5 B6 B7=>?_
  go_region_held3 (fun w'=>w'.cell? ⟨w.heap.size,0,none⟩=some (.bool false)∧w'.cell? ⟨w.heap.size,1,none⟩=some (.slice ax nx cx)∧w'.cell? ⟨w.heap.size,2,none⟩=some (.slice Ax Nx Cx))
   (first|exact⟨B5,B6,B7⟩|exact⟨bh (bh (bh (B5) (by first|omega|(have:=hs.size;simp;done)|(have:=hs.size;simp;omega))) (by first|omega|(have:=hs.size;simp;done)|(have:=hs.size;simp;omega))) (by first|omega|(have:=hs.size;simp;done)|(have:=hs.size;simp;omega)),bh (bh (bh (B6) (by first|omega|(have:=hs.size;simp;done)|(have:=hs.size;simp;omega))) (by first|omega|(have:=hs.size;simp;done)|(have:=hs.size;simp;omega))) (by first|omega|(have:=hs.size;simp;done)|(have:=hs.size;simp;omega)),bh (bh (bh (B7) (by first|omega|(have:=hs.size;simp;done)|(have:=hs.size;simp;omega))) (by first|omega|(have:=hs.size;simp;done)|(have:=hs.size;simp;omega))) (by first|omega|(have:=hs.size;simp;done)|(have:=hs.size;simp;omega))⟩|go_keep)
   (first
    | (go_at_call 46;(with_reducible refine (iq _ _ _ hx).mono ?_);rintro e w2 ⟨rfl,hb⟩;replace hs:=ar hs hb;replace B1:=B1.mono hb;replace B0:=B0.mono hb;replace hx:=hx.mono hb;replace B5:=ah B5 hb;replace B6:=ah B6 hb;replace B7:=ah B7 hb;clear hb;have Bo:w2.cell? ⟨w.heap.size + 1,0,none⟩=some (.bool false):=B0.at 0 rfl;have Bp:w2.cell? ⟨w.heap.size + 1,1,none⟩=some (.slice none 0 0):=B0.at 1 rfl;have Bq:w2.cell? ⟨w.heap.size + 1,2,none⟩=some (.slice none 0 0):=B0.at 2 rfl;have fz:=B0.free))
  clear B5 B6 B7
  go_wp2
  refine bodyPost.abs ?_
  intro w3 hW
  have Bg:=hs.size
  have lx:=B1.lt
  have lz:=B0.lt
  have B4:Below w.heap.size w w3:=by rw[hW];exact (Below.setCell (Below.setCell (Below.setCell hs (by first|exact ag _|omega|(have:=hs.size;simp;done)|(have:=hs.size;simp;omega)) _) (by first|exact ag _|omega|(have:=hs.size;simp;done)|(have:=hs.size;simp;omega)) _) (by first|exact ag _|omega|(have:=hs.size;simp;done)|(have:=hs.size;simp;omega)) _)
  have hk:aw w2 w3:=by rw[hW];exact (aw.set (aw.set (aw.set (aw.refl _) B0.ty (by decide) _ _) (TyB.store B0.ty _ _) (by decide) _ _) (TyB.store (TyB.store B0.ty _ _) _ _) (by decide) _ _)
  have B3:Bx w3 (w.heap.size) 37 #[.bool false,.slice ax nx cx,.slice Ax Nx Cx]:=by rw[hW];exact (Bx.far (Bx.far (Bx.far B1 (by first|omega|(simp;done)|(simp;omega)) _) (by first|omega|(simp;done)|(simp;omega)) _) (by first|omega|(simp;done)|(simp;omega)) _)
  have B2:Bx w3 (w.heap.size + 1) 37 #[.bool (!decide (x=0)),.slice ax nx cx,.slice Ax Nx Cx]:=by rw[hW];exact (Bx.set (Bx.set (Bx.set B0 0 _ rfl) 1 _ rfl) 2 _ rfl)
  replace hs:=B4
  clear B4
  replace B1:=B3
  clear B3
  replace B0:=B2
  clear B2
  replace hx:=hx.keep hk
  clear hW hk Bg lx lz
  exact mx rfl rfl rfl B0 (hx.neg (by rw[←Br.out];rfl)) hs
 go_enter Tryz.func184,Tryz.ntmps184
 go_wp2_with fail
 refine Code.abs ?_
 intro w1 hW
 have Bg:=hs.size
 have B4:Below w.heap.size w w1:=by rw[hW];exact (Below.alloc (Below.alloc hs (by first|exact hs.size|(have:=hs.size;simp;done)|(have:=hs.size;simp;omega)) _) (by first|exact hs.size|(have:=hs.size;simp;done)|(have:=hs.size;simp;omega)) _)
 have hk:aw w w1:=by rw[hW];exact (((aw.refl _).alloc _).alloc _)
 have B3:Bx w1 (w.heap.size) 37 #[.bool true,.slice ax nx cx,.slice Ax Nx Cx]:=by rw[hW];exact ((Bx.new' _ _ _ _ (by first|rfl|(simp;done))).alloc _)
 have B2:Bx w1 (w.heap.size + 1) 37 #[.bool false,.slice none 0 0,.slice none 0 0]:=by rw[hW];exact (Bx.new' _ _ _ _ (by first|rfl|(simp;done)))
 replace hs:=B4
 clear B4
 have B1:=B3
 clear B3
 have B0:=B2
 clear B2
 replace hx:=hx.keep hk
 clear hW hk Bg
 have Bl:=B0.lt
 refine B1.k3 fun B5 B6 B7=>?_
 refine B0.k3f fun Bo Bp Bq fz=>?_
 go_still_tail 13,(by kernel_rfl)
 change wpList _ _ _ _ _ (World.drew _)
 go_wp2
 refine bodyPost.abs ?_
 intro w2 hW
 have Bg:=hs.size
 have lx:=B1.lt
 have lz:=B0.lt
 have B4:Below w.heap.size w w2:=by rw[hW];exact (Below.setCell (Below.setCell (Below.setCell (Below.drew hs) (by first|exact ag _|omega|(have:=hs.size;simp;done)|(have:=hs.size;simp;omega)) _) (by first|exact ag _|omega|(have:=hs.size;simp;done)|(have:=hs.size;simp;omega)) _) (by first|exact ag _|omega|(have:=hs.size;simp;done)|(have:=hs.size;simp;omega)) _)
 have hk:aw w1 w2:=by rw[hW];exact (aw.set (aw.set (aw.set ((aw.refl _).drew) (B0.ty.drew) (by decide) _ _) (TyB.store (B0.ty.drew) _ _) (by decide) _ _) (TyB.store (TyB.store (B0.ty.drew) _ _) _ _) (by decide) _ _)
 have B3:Bx w2 (w.heap.size) 37 #[.bool true,.slice ax nx cx,.slice Ax Nx Cx]:=by rw[hW];exact (Bx.far (Bx.far (Bx.far (B1.drew) (by first|omega|(simp;done)|(simp;omega)) _) (by first|omega|(simp;done)|(simp;omega)) _) (by first|omega|(simp;done)|(simp;omega)) _)
 have B2:Bx w2 (w.heap.size + 1) 37 #[.bool false,.slice ax nx cx,.slice Ax Nx Cx]:=by rw[hW];exact (Bx.set (Bx.set (Bx.set (B0.drew) 0 _ rfl) 1 _ rfl) 2 _ rfl)
 replace hs:=B4
 clear B4
 replace B1:=B3
 clear B3
 replace B0:=B2
 clear B2
 replace hx:=hx.keep hk
 clear hW hk Bg lx lz
 exact mx rfl rfl rfl B0 (hx.neg (by rw[←Br.out];rfl)) hs
theorem p_Mul_calls (vx vy:Value) (x y:Rat) (K:Nat) (w:World) (hx:PV w vx x) (hy:PV w vy y) (hK:K≤268435456) (sx:SzP K x) (sy:SzP K y):Calls Tryz.prog 16 #[vx,vy] w (mp w (x * y)):=by
 obtain⟨gx,ax,nx,cx,Ax,Nx,Cx,rfl⟩:=hx.shape
 have Bi:=hx.sign
 have Br:=ae Bi
 have Bc:=hx.parts.2.1
 have Bd:=hx.parts.2.2
 obtain⟨gy,ay,ny,cy,Ay,Ny,Cy,rfl⟩:=hy.shape
 have Bm:=hy.sign
 have EGy:=ae Bm
 have Bf:=hy.parts.2.1
 have Be:=hy.parts.2.2
 have C2:=sx.1
 have C3:=sx.2
 have C4:=sy.1
 have C5:=sy.2
 have C1:=x.den_pos
 have C6:=y.den_pos
 have hd0:0 < x.den * y.den:=Nat.mul_pos C1 C6
 have zA:x.num.natAbs * y.num.natAbs < 18446744073709551616 ^ (K + K):=ji C2 C4
 have zD:x.den * y.den < 18446744073709551616 ^ (K + K):=ji C3 C5
 have Bn:K≤1099511627776:=by omega
 have hK3:K + K≤1099511627774:=by omega
 have e1:=mul_mk x y
 rw[←Bi,←Bm] at e1
 generalize hN1:x.num.natAbs * y.num.natAbs=N1 at *
 generalize hN3:x.den * y.den=N3 at *
 generalize x * y=xy at *
 have E1:=ae e1
 have HN1:=ae hN1
 have HN3:=ae hN3
 clear e1 hN1 hN3
 clear Bi
 clear Bm
 have hs:=Below.refl w.heap.size w
 go_enter Tryz.func16,Tryz.ntmps16
 go_wp2_with fail
 clear hx hy
 refine Code.abs ?_
 intro w1 hW
 have Bg:=hs.size
 have B4:Below w.heap.size w w1:=by rw[hW];exact (Below.alloc (Below.alloc (Below.alloc hs (by first|exact hs.size|(have:=hs.size;simp;done)|(have:=hs.size;simp;omega)) _) (by first|exact hs.size|(have:=hs.size;simp;done)|(have:=hs.size;simp;omega)) _) (by first|exact hs.size|(have:=hs.size;simp;done)|(have:=hs.size;simp;omega)) _)
 have hk:aw w w1:=by rw[hW];exact ((((aw.refl _).alloc _).alloc _).alloc _)
 have B3:Bx w1 (w.heap.size) 37 #[.bool gx,.slice ax nx cx,.slice Ax Nx Cx]:=by rw[hW];exact (((Bx.new' _ _ _ _ (by first|rfl|(simp;done))).alloc _).alloc _)
 have Bh:Bx w1 (w.heap.size + 1) 37 #[.bool gy,.slice ay ny cy,.slice Ay Ny Cy]:=by rw[hW];exact ((Bx.new' _ _ _ _ (by first|rfl|(simp;done))).alloc _)
 have B2:Bx w1 (w.heap.size + 1 + 1) 37 #[.bool false,.slice none 0 0,.slice none 0 0]:=by rw[hW];exact (Bx.new' _ _ _ _ (by first|rfl|(simp;done)))
 replace hs:=B4
 clear B4
 have B1:=B3
 clear B3
 have B8:=Bh
 clear Bh
 have B0:=B2
 clear B2
 revert Bd Bf Be;revert Bc;refine ke hk ?_;intro Bc Bd Bf Be
 clear hW hk Bg
 have Bl:=B0.lt
 have hb:=de w1
 revert B1 B8 B0 Bc Bd Bf Be;refine mS hs hb ?_;clear hs hb;intro hs B1 B8 B0 Bc Bd Bf Be
 refine B1.k3 fun B5 B6 B7=>?_
 refine B8.k3 fun B9 Ba Bb=>?_
 go_region_held3 (fun w'=>w'.cell? ⟨w.heap.size,0,none⟩=some (.bool gx)∧w'.cell? ⟨w.heap.size,1,none⟩=some (.slice ax nx cx)∧w'.cell? ⟨w.heap.size,2,none⟩=some (.slice Ax Nx Cx)∧w'.cell? ⟨w.heap.size + 1,0,none⟩=some (.bool gy)∧w'.cell? ⟨w.heap.size + 1,1,none⟩=some (.slice ay ny cy)∧w'.cell? ⟨w.heap.size + 1,2,none⟩=some (.slice Ay Ny Cy))
  (first|exact⟨B5,B6,B7,B9,Ba,Bb⟩|exact⟨bh (bh (bh (B5) (by first|omega|(have:=hs.size;simp;done)|(have:=hs.size;simp;omega))) (by first|omega|(have:=hs.size;simp;done)|(have:=hs.size;simp;omega))) (by first|omega|(have:=hs.size;simp;done)|(have:=hs.size;simp;omega)),bh (bh (bh (B6) (by first|omega|(have:=hs.size;simp;done)|(have:=hs.size;simp;omega))) (by first|omega|(have:=hs.size;simp;done)|(have:=hs.size;simp;omega))) (by first|omega|(have:=hs.size;simp;done)|(have:=hs.size;simp;omega)),bh (bh (bh (B7) (by first|omega|(have:=hs.size;simp;done)|(have:=hs.size;simp;omega))) (by first|omega|(have:=hs.size;simp;done)|(have:=hs.size;simp;omega))) (by first|omega|(have:=hs.size;simp;done)|(have:=hs.size;simp;omega)),bh (bh (bh (B9) (by first|omega|(have:=hs.size;simp;done)|(have:=hs.size;simp;omega))) (by first|omega|(have:=hs.size;simp;done)|(have:=hs.size;simp;omega))) (by first|omega|(have:=hs.size;simp;done)|(have:=hs.size;simp;omega)),bh (bh (bh (Ba) (by first|omega|(have:=hs.size;simp;done)|(have:=hs.size;simp;omega))) (by first|omega|(have:=hs.size;simp;done)|(have:=hs.size;simp;omega))) (by first|omega|(have:=hs.size;simp;done)|(have:=hs.size;simp;omega)),bh (bh (bh (Bb) (by first|omega|(have:=hs.size;simp;done)|(have:=hs.size;simp;omega))) (by first|omega|(have:=hs.size;simp;done)|(have:=hs.size;simp;omega))) (by first|omega|(have:=hs.size;simp;done)|(have:=hs.size;simp;omega))⟩|go_keep)
  (first
   | (go_at_call 47;(with_reducible refine (kj Bc Bf C2 C4 Bn Bn).mono ?_);rintro e w2 ⟨_,rfl,hA,hb⟩;obtain⟨ahA,nhA,chA,rfl⟩:=hA.shape;replace hs:=ar hs hb;replace B1:=B1.mono hb;replace B8:=B8.mono hb;replace B0:=B0.mono hb;replace Bc:=Bc.mono hb;replace Bd:=Bd.mono hb;replace Bf:=Bf.mono hb;replace Be:=Be.mono hb;replace B5:=ah B5 hb;replace B6:=ah B6 hb;replace B7:=ah B7 hb;replace B9:=ah B9 hb;replace Ba:=ah Ba hb;replace Bb:=ah Bb hb;clear hb;rw[HN1.out] at hA)
   | (go_at_call 48;(with_reducible refine (gz _ _ _ C1 Bd).mono ?_);rintro e w3 ⟨_,rfl,Bj,hb⟩;obtain⟨ahu1,nhu1,chu1,rfl⟩:=Bj.shape;replace hs:=ar hs hb;replace B1:=B1.mono hb;replace B8:=B8.mono hb;replace B0:=B0.mono hb;replace Bc:=Bc.mono hb;replace Bd:=Bd.mono hb;replace Bf:=Bf.mono hb;replace Be:=Be.mono hb;replace hA:=hA.mono hb;replace B5:=ah B5 hb;replace B6:=ah B6 hb;replace B7:=ah B7 hb;replace B9:=ah B9 hb;replace Ba:=ah Ba hb;replace Bb:=ah Bb hb;clear hb)
   | (go_at_call 48;(with_reducible refine (gz _ _ _ C6 Be).mono ?_);rintro e w4 ⟨_,rfl,Bk,hb⟩;obtain⟨ahu2,nhu2,chu2,rfl⟩:=Bk.shape;replace hs:=ar hs hb;replace B1:=B1.mono hb;replace B8:=B8.mono hb;replace B0:=B0.mono hb;replace Bc:=Bc.mono hb;replace Bd:=Bd.mono hb;replace Bf:=Bf.mono hb;replace Be:=Be.mono hb;replace hA:=hA.mono hb;replace Bj:=Bj.mono hb;replace B5:=ah B5 hb;replace B6:=ah B6 hb;replace B7:=ah B7 hb;replace B9:=ah B9 hb;replace Ba:=ah Ba hb;replace Bb:=ah Bb hb;clear hb)
   | (go_at_call 47;(with_reducible refine (kj Bj Bk C3 C5 Bn Bn).mono ?_);rintro e w5 ⟨_,rfl,hD,hb⟩;obtain⟨ahD,nhD,chD,rfl⟩:=hD.shape;replace hs:=ar hs hb;replace B1:=B1.mono hb;replace B8:=B8.mono hb;replace B0:=B0.mono hb;replace Bc:=Bc.mono hb;replace Bd:=Bd.mono hb;replace Bf:=Bf.mono hb;replace Be:=Be.mono hb;replace hA:=hA.mono hb;replace Bj:=Bj.mono hb;replace Bk:=Bk.mono hb;replace B5:=ah B5 hb;replace B6:=ah B6 hb;replace B7:=ah B7 hb;replace B9:=ah B9 hb;replace Ba:=ah Ba hb;replace Bb:=ah Bb hb;clear hb;rw[HN3.out] at hD)
   | (go_at_call 50;(with_reducible refine (ip _ _ _ _ _ _ _ hA hD hd0 hK3 zA zD).mono ?_);rintro e w6 ⟨_,rfl,hQ,hb⟩;obtain⟨shQ,Bw,Bz,By,Bt,Bv,Bu,rfl⟩:=hQ.shape;replace hs:=ar hs hb;replace B1:=B1.mono hb;replace B8:=B8.mono hb;replace B0:=B0.mono hb;replace Bc:=Bc.mono hb;replace Bd:=Bd.mono hb;replace Bf:=Bf.mono hb;replace Be:=Be.mono hb;replace hA:=hA.mono hb;replace Bj:=Bj.mono hb;replace Bk:=Bk.mono hb;replace hD:=hD.mono hb;replace B5:=ah B5 hb;replace B6:=ah B6 hb;replace B7:=ah B7 hb;replace B9:=ah B9 hb;replace Ba:=ah Ba hb;replace Bb:=ah Bb hb;clear hb;have Bo:w6.cell? ⟨w.heap.size + 1 + 1,0,none⟩=some (.bool false):=B0.at 0 rfl;have Bp:w6.cell? ⟨w.heap.size + 1 + 1,1,none⟩=some (.slice none 0 0):=B0.at 1 rfl;have Bq:w6.cell? ⟨w.heap.size + 1 + 1,2,none⟩=some (.slice none 0 0):=B0.at 2 rfl;have fz:=B0.free))
 clear B5 B6 B7 B9 Ba Bb
 go_wp2
 refine bodyPost.abs ?_
 intro w7 hW
 have Bg:=hs.size
 have lx:=B1.lt
 have ly:=B8.lt
 have lz:=B0.lt
 have B4:Below w.heap.size w w7:=by rw[hW];exact (Below.setCell (Below.setCell (Below.setCell hs (by first|exact ag _|omega|(have:=hs.size;simp;done)|(have:=hs.size;simp;omega)) _) (by first|exact ag _|omega|(have:=hs.size;simp;done)|(have:=hs.size;simp;omega)) _) (by first|exact ag _|omega|(have:=hs.size;simp;done)|(have:=hs.size;simp;omega)) _)
 have hk:aw w6 w7:=by rw[hW];exact (aw.set (aw.set (aw.set (aw.refl _) B0.ty (by decide) _ _) (TyB.store B0.ty _ _) (by decide) _ _) (TyB.store (TyB.store B0.ty _ _) _ _) (by decide) _ _)
 have B3:Bx w7 (w.heap.size) 37 #[.bool gx,.slice ax nx cx,.slice Ax Nx Cx]:=by rw[hW];exact (Bx.far (Bx.far (Bx.far B1 (by first|omega|(simp;done)|(simp;omega)) _) (by first|omega|(simp;done)|(simp;omega)) _) (by first|omega|(simp;done)|(simp;omega)) _)
 have Bh:Bx w7 (w.heap.size + 1) 37 #[.bool gy,.slice ay ny cy,.slice Ay Ny Cy]:=by rw[hW];exact (Bx.far (Bx.far (Bx.far B8 (by first|omega|(simp;done)|(simp;omega)) _) (by first|omega|(simp;done)|(simp;omega)) _) (by first|omega|(simp;done)|(simp;omega)) _)
 have B2:Bx w7 (w.heap.size + 1 + 1) 37 #[.bool shQ,.slice Bw Bz By,.slice Bt Bv Bu]:=by rw[hW];exact (Bx.set (Bx.set (Bx.set B0 0 _ rfl) 1 _ rfl) 2 _ rfl)
 replace hs:=B4
 clear B4
 replace B1:=B3
 clear B3
 replace B8:=Bh
 clear Bh
 replace B0:=B2
 clear B2
 revert Bc Bd Bf Be;revert hQ;revert hD;revert Bk;revert Bj;revert hA;refine ke hk ?_;intro hA Bj Bk hD hQ Bc Bd Bf Be
 clear hW hk Bg lx ly lz
 exact mx rfl rfl rfl B0 (hQ.of_eq (E1.out.trans (by cases gx<;>cases gy<;>rfl)).symm) hs
theorem p_by_calls (vx vy:Value) (x y:Rat) (K:Nat) (w:World) (hx:PV w vx x) (hy:PV w vy y) (hK:K≤268435456) (sx:SzP K x) (sy:SzP K y) (hy0:y≠0):Calls Tryz.prog 120 #[vx,vy] w (mp w (x / y)):=by
 obtain⟨gx,ax,nx,cx,Ax,Nx,Cx,rfl⟩:=hx.shape
 have Bi:=hx.sign
 have Br:=ae Bi
 have Bc:=hx.parts.2.1
 have Bd:=hx.parts.2.2
 obtain⟨gy,ay,ny,cy,Ay,Ny,Cy,rfl⟩:=hy.shape
 have Bm:=hy.sign
 have EGy:=ae Bm
 have Bf:=hy.parts.2.1
 have Be:=hy.parts.2.2
 have C2:=sx.1
 have C3:=sx.2
 have C4:=sy.1
 have C5:=sy.2
 have C1:=x.den_pos
 have C6:=y.den_pos
 have hn0:0 < y.num.natAbs:=Nat.pos_of_ne_zero (fun h=>hy0 ((jd y).1 h))
 have hd0:0 < x.den * y.num.natAbs:=Nat.mul_pos C1 hn0
 have zA:x.num.natAbs * y.den < 18446744073709551616 ^ (K + K):=ji C2 C5
 have zD:x.den * y.num.natAbs < 18446744073709551616 ^ (K + K):=ji C3 C4
 have Bn:K≤1099511627776:=by omega
 have hK3:K + K≤1099511627774:=by omega
 have e1:=div_mk x y hy0
 rw[←Bi,←Bm] at e1
 generalize hN1:x.num.natAbs * y.den=N1 at *
 generalize hN3:x.den * y.num.natAbs=N3 at *
 generalize x / y=xy at *
 have E1:=ae e1
 have HN1:=ae hN1
 have HN3:=ae hN3
 clear e1 hN1 hN3 hy0
 clear Bi
 clear Bm
 have hs:=Below.refl w.heap.size w
 go_enter Tryz.func120,Tryz.ntmps120
 go_wp2_with fail
 clear hx hy
 refine Code.abs ?_
 intro w1 hW
 have Bg:=hs.size
 have B4:Below w.heap.size w w1:=by rw[hW];exact (Below.alloc (Below.alloc (Below.alloc hs (by first|exact hs.size|(have:=hs.size;simp;done)|(have:=hs.size;simp;omega)) _) (by first|exact hs.size|(have:=hs.size;simp;done)|(have:=hs.size;simp;omega)) _) (by first|exact hs.size|(have:=hs.size;simp;done)|(have:=hs.size;simp;omega)) _)
 have hk:aw w w1:=by rw[hW];exact ((((aw.refl _).alloc _).alloc _).alloc _)
 have B3:Bx w1 (w.heap.size) 37 #[.bool gx,.slice ax nx cx,.slice Ax Nx Cx]:=by rw[hW];exact (((Bx.new' _ _ _ _ (by first|rfl|(simp;done))).alloc _).alloc _)
 have Bh:Bx w1 (w.heap.size + 1) 37 #[.bool gy,.slice ay ny cy,.slice Ay Ny Cy]:=by rw[hW];exact ((Bx.new' _ _ _ _ (by first|rfl|(simp;done))).alloc _)
 have B2:Bx w1 (w.heap.size + 1 + 1) 37 #[.bool false,.slice none 0 0,.slice none 0 0]:=by rw[hW];exact (Bx.new' _ _ _ _ (by first|rfl|(simp;done)))
 replace hs:=B4
 clear B4
 have B1:=B3
 clear B3
 have B8:=Bh
 clear Bh
 have B0:=B2
 clear B2
 revert Bd Bf Be;revert Bc;refine ke hk ?_;intro Bc Bd Bf Be
 clear hW hk Bg
 have Bl:=B0.lt
 have hb:=de w1
 revert B1 B8 B0 Bc Bd Bf Be;refine mS hs hb ?_;clear hs hb;intro hs B1 B8 B0 Bc Bd Bf Be
 refine B1.k3 fun B5 B6 B7=>?_
 refine B8.k3 fun B9 Ba Bb=>?_
 go_region_held3 (fun w'=>w'.cell? ⟨w.heap.size,0,none⟩=some (.bool gx)∧w'.cell? ⟨w.heap.size,1,none⟩=some (.slice ax nx cx)∧w'.cell? ⟨w.heap.size,2,none⟩=some (.slice Ax Nx Cx)∧w'.cell? ⟨w.heap.size + 1,0,none⟩=some (.bool gy)∧w'.cell? ⟨w.heap.size + 1,1,none⟩=some (.slice ay ny cy)∧w'.cell? ⟨w.heap.size + 1,2,none⟩=some (.slice Ay Ny Cy))
  (first|exact⟨B5,B6,B7,B9,Ba,Bb⟩|exact⟨bh (bh (bh (B5) (by first|omega|(have:=hs.size;simp;done)|(have:=hs.size;simp;omega))) (by first|omega|(have:=hs.size;simp;done)|(have:=hs.size;simp;omega))) (by first|omega|(have:=hs.size;simp;done)|(have:=hs.size;simp;omega)),bh (bh (bh (B6) (by first|omega|(have:=hs.size;simp;done)|(have:=hs.size;simp;omega))) (by first|omega|(have:=hs.size;simp;done)|(have:=hs.size;simp;omega))) (by first|omega|(have:=hs.size;simp;done)|(have:=hs.size;simp;omega)),bh (bh (bh (B7) (by first|omega|(have:=hs.size;simp;done)|(have:=hs.size;simp;omega))) (by first|omega|(have:=hs.size;simp;done)|(have:=hs.size;simp;omega))) (by first|omega|(have:=hs.size;simp;done)|(have:=hs.size;simp;omega)),bh (bh (bh (B9) (by first|omega|(have:=hs.size;simp;done)|(have:=hs.size;simp;omega))) (by first|omega|(have:=hs.size;simp;done)|(have:=hs.size;simp;omega))) (by first|omega|(have:=hs.size;simp;done)|(have:=hs.size;simp;omega)),bh (bh (bh (Ba) (by first|omega|(have:=hs.size;simp;done)|(have:=hs.size;simp;omega))) (by first|omega|(have:=hs.size;simp;done)|(have:=hs.size;simp;omega))) (by first|omega|(have:=hs.size;simp;done)|(have:=hs.size;simp;omega)),bh (bh (bh (Bb) (by first|omega|(have:=hs.size;simp;done)|(have:=hs.size;simp;omega))) (by first|omega|(have:=hs.size;simp;done)|(have:=hs.size;simp;omega))) (by first|omega|(have:=hs.size;simp;done)|(have:=hs.size;simp;omega))⟩|go_keep)
  (first
   | (go_at_call 48;(with_reducible refine (gz _ _ _ C6 Be).mono ?_);rintro e w2 ⟨_,rfl,Bj,hb⟩;obtain⟨ahu1,nhu1,chu1,rfl⟩:=Bj.shape;replace hs:=ar hs hb;replace B1:=B1.mono hb;replace B8:=B8.mono hb;replace B0:=B0.mono hb;replace Bc:=Bc.mono hb;replace Bd:=Bd.mono hb;replace Bf:=Bf.mono hb;replace Be:=Be.mono hb;replace B5:=ah B5 hb;replace B6:=ah B6 hb;replace B7:=ah B7 hb;replace B9:=ah B9 hb;replace Ba:=ah Ba hb;replace Bb:=ah Bb hb;clear hb)
   | (go_at_call 47;(with_reducible refine (kj Bc Bj C2 C5 Bn Bn).mono ?_);rintro e w3 ⟨_,rfl,hA,hb⟩;obtain⟨ahA,nhA,chA,rfl⟩:=hA.shape;replace hs:=ar hs hb;replace B1:=B1.mono hb;replace B8:=B8.mono hb;replace B0:=B0.mono hb;replace Bc:=Bc.mono hb;replace Bd:=Bd.mono hb;replace Bf:=Bf.mono hb;replace Be:=Be.mono hb;replace Bj:=Bj.mono hb;replace B5:=ah B5 hb;replace B6:=ah B6 hb;replace B7:=ah B7 hb;replace B9:=ah B9 hb;replace Ba:=ah Ba hb;replace Bb:=ah Bb hb;clear hb;rw[HN1.out] at hA)
   | (go_at_call 48;(with_reducible refine (gz _ _ _ C1 Bd).mono ?_);rintro e w4 ⟨_,rfl,Bk,hb⟩;obtain⟨ahu2,nhu2,chu2,rfl⟩:=Bk.shape;replace hs:=ar hs hb;replace B1:=B1.mono hb;replace B8:=B8.mono hb;replace B0:=B0.mono hb;replace Bc:=Bc.mono hb;replace Bd:=Bd.mono hb;replace Bf:=Bf.mono hb;replace Be:=Be.mono hb;replace Bj:=Bj.mono hb;replace hA:=hA.mono hb;replace B5:=ah B5 hb;replace B6:=ah B6 hb;replace B7:=ah B7 hb;replace B9:=ah B9 hb;replace Ba:=ah Ba hb;replace Bb:=ah Bb hb;clear hb)
   | (go_at_call 47;(with_reducible refine (kj Bk Bf C3 C4 Bn Bn).mono ?_);rintro e w5 ⟨_,rfl,hD,hb⟩;obtain⟨ahD,nhD,chD,rfl⟩:=hD.shape;replace hs:=ar hs hb;replace B1:=B1.mono hb;replace B8:=B8.mono hb;replace B0:=B0.mono hb;replace Bc:=Bc.mono hb;replace Bd:=Bd.mono hb;replace Bf:=Bf.mono hb;replace Be:=Be.mono hb;replace Bj:=Bj.mono hb;replace hA:=hA.mono hb;replace Bk:=Bk.mono hb;replace B5:=ah B5 hb;replace B6:=ah B6 hb;replace B7:=ah B7 hb;replace B9:=ah B9 hb;replace Ba:=ah Ba hb;replace Bb:=ah Bb hb;clear hb;rw[HN3.out] at hD)
   | (go_at_call 50;(with_reducible refine (ip _ _ _ _ _ _ _ hA hD hd0 hK3 zA zD).mono ?_);rintro e w6 ⟨_,rfl,hQ,hb⟩;obtain⟨shQ,Bw,Bz,By,Bt,Bv,Bu,rfl⟩:=hQ.shape;replace hs:=ar hs hb;replace B1:=B1.mono hb;replace B8:=B8.mono hb;replace B0:=B0.mono hb;replace Bc:=Bc.mono hb;replace Bd:=Bd.mono hb;replace Bf:=Bf.mono hb;replace Be:=Be.mono hb;replace Bj:=Bj.mono hb;replace hA:=hA.mono hb;replace Bk:=Bk.mono hb;replace hD:=hD.mono hb;replace B5:=ah B5 hb;replace B6:=ah B6 hb;replace B7:=ah B7 hb;replace B9:=ah B9 hb;replace Ba:=ah Ba hb;replace Bb:=ah Bb hb;clear hb;have Bo:w6.cell? ⟨w.heap.size + 1 + 1,0,none⟩=some (.bool false):=B0.at 0 rfl;have Bp:w6.cell? ⟨w.heap.size + 1 + 1,1,none⟩=some (.slice none 0 0):=B0.at 1 rfl;have Bq:w6.cell? ⟨w.heap.size + 1 + 1,2,none⟩=some (.slice none 0 0):=B0.at 2 rfl;have fz:=B0.free))
 clear B5 B6 B7 B9 Ba Bb
 go_wp2
 refine bodyPost.abs ?_
 intro w7 hW
 have Bg:=hs.size
 have lx:=B1.lt
 have ly:=B8.lt
 have lz:=B0.lt
 have B4:Below w.heap.size w w7:=by rw[hW];exact (Below.setCell (Below.setCell (Below.setCell hs (by first|exact ag _|omega|(have:=hs.size;simp;done)|(have:=hs.size;simp;omega)) _) (by first|exact ag _|omega|(have:=hs.size;simp;done)|(have:=hs.size;simp;omega)) _) (by first|exact ag _|omega|(have:=hs.size;simp;done)|(have:=hs.size;simp;omega)) _)
 have hk:aw w6 w7:=by rw[hW];exact (aw.set (aw.set (aw.set (aw.refl _) B0.ty (by decide) _ _) (TyB.store B0.ty _ _) (by decide) _ _) (TyB.store (TyB.store B0.ty _ _) _ _) (by decide) _ _)
 have B3:Bx w7 (w.heap.size) 37 #[.bool gx,.slice ax nx cx,.slice Ax Nx Cx]:=by rw[hW];exact (Bx.far (Bx.far (Bx.far B1 (by first|omega|(simp;done)|(simp;omega)) _) (by first|omega|(simp;done)|(simp;omega)) _) (by first|omega|(simp;done)|(simp;omega)) _)
 have Bh:Bx w7 (w.heap.size + 1) 37 #[.bool gy,.slice ay ny cy,.slice Ay Ny Cy]:=by rw[hW];exact (Bx.far (Bx.far (Bx.far B8 (by first|omega|(simp;done)|(simp;omega)) _) (by first|omega|(simp;done)|(simp;omega)) _) (by first|omega|(simp;done)|(simp;omega)) _)
 have B2:Bx w7 (w.heap.size + 1 + 1) 37 #[.bool shQ,.slice Bw Bz By,.slice Bt Bv Bu]:=by rw[hW];exact (Bx.set (Bx.set (Bx.set B0 0 _ rfl) 1 _ rfl) 2 _ rfl)
 replace hs:=B4
 clear B4
 replace B1:=B3
 clear B3
 replace B8:=Bh
 clear Bh
 replace B0:=B2
 clear B2
 revert Bc Bd Bf Be;revert hQ;revert hD;revert Bk;revert hA;revert Bj;refine ke hk ?_;intro Bj hA Bk hD hQ Bc Bd Bf Be
 clear hW hk Bg lx ly lz
 exact mx rfl rfl rfl B0 (hQ.of_eq (E1.out.trans (by cases gx<;>cases gy<;>rfl)).symm) hs
theorem p_Div_calls (vx vy:Value) (x y:Rat) (K:Nat) (w:World) (hx:PV w vx x) (hy:PV w vy y) (hK:K≤268435456) (sx:SzP K x) (sy:SzP K y) (hy0:y≠0):Calls Tryz.prog 90 #[vx,vy] w (RetPE w (x / y) 0):=by
 obtain⟨gx,ax,nx,cx,Ax,Nx,Cx,rfl⟩:=hx.shape
 have Bi:=hx.sign
 have Br:=ae Bi
 obtain⟨gy,ay,ny,cy,Ay,Ny,Cy,rfl⟩:=hy.shape
 have Bm:=hy.sign
 have EGy:=ae Bm
 have Bs:decide (y=0)=false:=decide_eq_false hy0
 have HZ0:=ae Bs
 clear Bs
 clear Bi Bm
 have hs:=Below.refl w.heap.size w
 go_enter Tryz.func90,Tryz.ntmps90
 go_wp2_with fail
 refine Calls.abs ?_
 intro w1 hW
 have Bg:=hs.size
 have B4:Below w.heap.size w w1:=by rw[hW];exact (Below.alloc (Below.alloc (Below.alloc hs (by first|exact hs.size|(have:=hs.size;simp;done)|(have:=hs.size;simp;omega)) _) (by first|exact hs.size|(have:=hs.size;simp;done)|(have:=hs.size;simp;omega)) _) (by first|exact hs.size|(have:=hs.size;simp;done)|(have:=hs.size;simp;omega)) _)
 have hk:aw w w1:=by rw[hW];exact ((((aw.refl _).alloc _).alloc _).alloc _)
 have B3:Bx w1 (w.heap.size) 37 #[.bool gx,.slice ax nx cx,.slice Ax Nx Cx]:=by rw[hW];exact (((Bx.new' _ _ _ _ (by first|rfl|(simp;done))).alloc _).alloc _)
 have Bh:Bx w1 (w.heap.size + 1) 37 #[.bool gy,.slice ay ny cy,.slice Ay Ny Cy]:=by rw[hW];exact ((Bx.new' _ _ _ _ (by first|rfl|(simp;done))).alloc _)
 have B2:Bx w1 (w.heap.size + 1 + 1) 37 #[.bool false,.slice none 0 0,.slice none 0 0]:=by rw[hW];exact (Bx.new' _ _ _ _ (by first|rfl|(simp;done)))
 replace hs:=B4
 clear B4
 have B1:=B3
 clear B3
 have B8:=Bh
 clear Bh
 have B0:=B2
 clear B2
 revert hy;revert hx;refine ke hk ?_;intro hx hy
 clear hW hk Bg
 have Bl:=B0.lt
 refine (iq _ _ _ hy).mono ?_
 rintro e w2 ⟨rfl,hb⟩
 revert B1 B8 B0 hx hy;refine mS hs hb ?_;clear hs hb;intro hs B1 B8 B0 hx hy
 rw[HZ0.out]
 refine B1.k3 fun B5 B6 B7=>?_
 refine B8.k3 fun B9 Ba Bb=>?_
 go_wp2_with fail
 clear B5 B6 B7 B9 Ba Bb
 refine (p_by_calls _ _ x y K _ hx hy hK sx sy hy0).mono ?_
 rintro e w3 ⟨_,rfl,hQ,hb⟩
 obtain⟨shQ,Bw,Bz,By,Bt,Bv,Bu,rfl⟩:=hQ.shape
 revert hy;revert hx;revert B0;revert B8;revert B1;refine mS hs hb ?_;clear hs hb;intro hs B1 B8 B0 hx hy
 refine B0.k3f fun Bo Bp Bq fz=>?_
 go_wp2
 refine bodyPost.abs ?_
 intro w4 hW
 have Bg:=hs.size
 have lx:=B1.lt
 have ly:=B8.lt
 have lz:=B0.lt
 have B4:Below w.heap.size w w4:=by rw[hW];exact (Below.setCell (Below.setCell (Below.setCell hs (by first|exact ag _|omega|(have:=hs.size;simp;done)|(have:=hs.size;simp;omega)) _) (by first|exact ag _|omega|(have:=hs.size;simp;done)|(have:=hs.size;simp;omega)) _) (by first|exact ag _|omega|(have:=hs.size;simp;done)|(have:=hs.size;simp;omega)) _)
 have hk:aw w3 w4:=by rw[hW];exact (aw.set (aw.set (aw.set (aw.refl _) B0.ty (by decide) _ _) (TyB.store B0.ty _ _) (by decide) _ _) (TyB.store (TyB.store B0.ty _ _) _ _) (by decide) _ _)
 have B3:Bx w4 (w.heap.size) 37 #[.bool gx,.slice ax nx cx,.slice Ax Nx Cx]:=by rw[hW];exact (Bx.far (Bx.far (Bx.far B1 (by first|omega|(simp;done)|(simp;omega)) _) (by first|omega|(simp;done)|(simp;omega)) _) (by first|omega|(simp;done)|(simp;omega)) _)
 have Bh:Bx w4 (w.heap.size + 1) 37 #[.bool gy,.slice ay ny cy,.slice Ay Ny Cy]:=by rw[hW];exact (Bx.far (Bx.far (Bx.far B8 (by first|omega|(simp;done)|(simp;omega)) _) (by first|omega|(simp;done)|(simp;omega)) _) (by first|omega|(simp;done)|(simp;omega)) _)
 have B2:Bx w4 (w.heap.size + 1 + 1) 37 #[.bool shQ,.slice Bw Bz By,.slice Bt Bv Bu]:=by rw[hW];exact (Bx.set (Bx.set (Bx.set B0 0 _ rfl) 1 _ rfl) 2 _ rfl)
 replace hs:=B4
 clear B4
 replace B1:=B3
 clear B3
 replace B8:=Bh
 clear Bh
 replace B0:=B2
 clear B2
 revert hQ hx hy;refine ke hk ?_;intro hQ hx hy
 clear hW hk Bg lx ly lz
 exact ret_PE rfl rfl rfl rfl B0 hQ hs
end Go.Proofs.YtidmjdmmpajooaaGreat
