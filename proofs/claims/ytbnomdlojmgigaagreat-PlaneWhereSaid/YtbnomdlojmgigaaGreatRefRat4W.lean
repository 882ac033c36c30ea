/-
  The contracts of the reference's fractions, fourth part: magnitude, Int, New, Of, Sub, Cmp, Same, Div.
-/
import Derived.Test.YtbnomdlojmgigaaGreatPkW9W
set_option linter.unusedSimpArgs false
set_option linter.unusedVariables false
set_option maxRecDepth 100000
set_option maxHeartbeats 4000000
namespace Go.Proofs.YtbnomdlojmgigaaGreat
open Go.RowKit Dg
attribute [local go_sem ↓] Go.wp_at_zero Go.wp_at_succ
theorem rx.of_eq {w:World} {q q':Rat} {e:Ending} {w':World} (h:rx w q e w') (hq:q=q'):rx w q' e w':=hq ▸ h
def RetQE (w:World) (q:Rat) (err:Int) (e:Ending) (w':World):Prop:=∃v,e=.returned (.tuple #[v,.int .i64 err])∧RV w' v q∧Below w.heap.size w w'
theorem ret_RV2 {fn:Func} {p u:Tmp} {w0 w1 w:World} {g:Nat} {q:Rat} {s:Bool} {v1 v2 u0 u1 u2:Value} {a:Act} {err:Int} (hr:fn.results=#[.cell p 53,.tmp u]) (ha:a.tmps.getD p undef=.pointer (some ⟨g,0,none⟩)) (hu:a.tmps.getD u undef=.int .i64 err) (hdef:a.defers=[])
  (hbox:df w1 g u0 u1 u2) (hni:nz w1 g) (hw:w=((w1.setCell ⟨g,0,none⟩ (.bool s)).setCell ⟨g,1,none⟩ v1).setCell ⟨g,2,none⟩ v2)
  {q':Rat} (hq:q=q') (h:RV w1 (.agg #[.bool s,v1,v2]) q') (hb:bz w0 w1) (hg:w0.heap.size≤g):
  bodyPost Tryz.prog fn (RetQE w0 q err) .ret a w:=by
 subst hq
 subst hw
 obtain⟨d,rfl,h1,h2,hd⟩:=h.parts
 have hst:=store3 (s:=ng q) hni h1 h2
 refine bodyPost_ret (v:=.tuple #[.agg #[.bool (ng q),v1,v2],.int .i64 err]) ?_ hdef ⟨_,rfl,⟨v1,v2,d,rfl,hst.1,hst.2,hd⟩,vf hb hg _ _ _⟩
 rw[results_cell_tmp hr,ha,hu]
 simp only[asAddr,Sem.run_pure,Result.andThen_ok]
 rw[load_R (hbox.set _ _ _)]
 rfl
theorem xa (n:Int) (w:World) (h0: -9223372036854775808≤n) (h1:n≤9223372036854775807):Calls Tryz.prog 93 #[.int .i64 n] w (ux .u32 4294967296 w n.natAbs):=by
 by_cases hn:n < 0
 ·go_enter Tryz.func93,Tryz.ntmps93
  go_wp2_with fail
  rw[show IntKind.u64.wrap (-IntKind.u64.wrap n)=((n.natAbs:Nat):Int) from by show (-(n % 18446744073709551616)) % 18446744073709551616=_;omega]
  refine (rn_Nat n.natAbs _ (by omega)).mono ?_
  rintro e w1 ⟨_,rfl,hv,hb⟩
  go_wp2
  go_ret
  exact⟨_,rfl,hv,hb⟩
 obtain⟨m,rfl⟩:=Int.eq_ofNat_of_zero_le (show 0≤n by omega)
 rw[Int.natAbs_natCast]
 go_enter Tryz.func93,Tryz.ntmps93
 go_wp2_with fail
 refine (rn_Nat m _ (by omega)).mono ?_
 rintro e w1 ⟨_,rfl,hv,hb⟩
 go_wp2
 go_ret
 exact⟨_,rfl,hv,hb⟩
theorem r_Sub_calls (vx vy:Value) (x y:Rat) (K:Nat) (w:World) (hx:RV w vx x) (hy:RV w vy y) (hK:K≤134217728) (sx:SzQ K x) (sy:SzQ K y):
  Calls Tryz.prog 98 #[vx,vy] w (rx w (x - y)):=by
 obtain⟨xn,xd,xe,rfl,B0,B1,Ba⟩:=id hx
 obtain⟨yn,yd,ye,rfl,B2,B3,Bh⟩:=id hy
 obtain⟨a1,n1,c1,l1,rfl,_⟩:=id B0
 obtain⟨a2,n2,c2,l2,rfl,_⟩:=id B1
 obtain⟨a3,n3,c3,l3,rfl,_⟩:=id B2
 obtain⟨a4,n4,c4,l4,rfl,_⟩:=id B3
 clear Ba Bh
 rw[Rat.sub_eq_add_neg]
 have sy':=sy.neg
 generalize hsx:ng x=bx at *
 have HSX:=Lib.hid hsx
 clear hsx
 generalize hsy:ng y=bY at *
 have HSY:=Lib.hid hsy
 clear hsy
 go_enter Tryz.func98,Tryz.ntmps98
 go_wp2_with fail
 generalize hw0:(((w.alloc (.cells #[.bool bx,.slice a1 n1 c1,.slice a2 n2 c2] 53)).alloc (.cells #[.bool bY,.slice a3 n3 c3,.slice a4 n4 c4] 53)).alloc (.cells #[.bool false,.slice none 0 0,.slice none 0 0] 53))=w0
 have hs:bz w w0:=by rw[←hw0];exact ((((Below.refl _ _).alloc (by first|exact Nat.le_refl _|(simp;done)|(simp;omega)) _).alloc (by first|exact Nat.le_refl _|(simp;done)|(simp;omega)) _).alloc (by first|exact Nat.le_refl _|(simp;done)|(simp;omega)) _)
 have B8:df w0 (w.heap.size) (.bool bx) (.slice a1 n1 c1) (.slice a2 n2 c2):=by rw[←hw0];exact ((df.new' _ _ _ _ _ _ (by first|rfl|(simp;done))).alloc _).alloc _
 have Bg:df w0 (w.heap.size + 1) (.bool bY) (.slice a3 n3 c3) (.slice a4 n4 c4):=by rw[←hw0];exact (df.new' _ _ _ _ _ _ (by first|rfl|(simp;done))).alloc _
 have hz:df w0 (w.heap.size + 1 + 1) (.bool false) (.slice none 0 0) (.slice none 0 0):=by rw[←hw0];exact df.new' _ _ _ _ _ _ (by first|rfl|(simp;done))
 have hx:=hs.rv hx
 have B0:=hs.nv B0
 have B1:=hs.nv B1
 have hy:=hs.rv hy
 have B2:=hs.nv B2
 have B3:=hs.nv B3
 clear hw0
 obtain⟨x0,x1,x2⟩:=B8.cells
 have Bb:w.heap.size≠w.heap.size + 1 + 1:=by omega
 obtain⟨y0,y1,y2⟩:=Bg.cells
 have Bc:w.heap.size + 1≠w.heap.size + 1 + 1:=by omega
 have hs:=bz.step hs (ak _)
 have x0:=aj x0 (ak _)
 have x1:=aj x1 (ak _)
 have x2:=aj x2 (ak _)
 have y0:=aj y0 (ak _)
 have y1:=aj y1 (ak _)
 have y2:=aj y2 (ak _)
 have hx:=hx.mono (ak _)
 have B0:=B0.mono (ak _)
 have B1:=B1.mono (ak _)
 have hy:=hy.mono (ak _)
 have B2:=B2.mono (ak _)
 have B3:=B3.mono (ak _)
 have hz:=hz.mono (ak _)
 go_region_held3 (fun w'=>w'.cell? ⟨w.heap.size,0,none⟩=some (.bool bx)∧w'.cell? ⟨w.heap.size,1,none⟩=some (.slice a1 n1 c1)∧w'.cell? ⟨w.heap.size,2,none⟩=some (.slice a2 n2 c2)∧w'.cell? ⟨w.heap.size + 1,0,none⟩=some (.bool bY)∧w'.cell? ⟨w.heap.size + 1,1,none⟩=some (.slice a3 n3 c3)∧w'.cell? ⟨w.heap.size + 1,2,none⟩=some (.slice a4 n4 c4))
  (first|exact⟨x0,x1,x2,y0,y1,y2⟩|exact⟨er x0 Bb,er x1 Bb,er x2 Bb,er y0 Bc,er y1 Bc,er y2 Bc⟩|go_keep)
  (first
   | (go_at_call 128;(with_reducible refine (r_Neg_calls _ y _ hy).mono ?_);rintro e w1 ⟨_,rfl,hn,hb⟩;obtain⟨_,_,_,rfl,⟨_,_,_,_,rfl,_⟩,⟨_,_,_,_,rfl,_⟩,_⟩:=id hn;have hs:=bz.step hs hb;have x0:=aj x0 hb;have x1:=aj x1 hb;have x2:=aj x2 hb;have y0:=aj y0 hb;have y1:=aj y1 hb;have y2:=aj y2 hb;have hx:=hx.mono hb;have B0:=B0.mono hb;have B1:=B1.mono hb;have hy:=hy.mono hb;have B2:=B2.mono hb;have B3:=B3.mono hb;have hz:=hz.mono hb)
   | (go_at_call 127;(with_reducible refine (r_Add_calls _ _ x (-y) K _ hx hn hK sx sy').mono ?_);rintro e w2 ⟨_,rfl,hQ,hb⟩;obtain⟨_,_,_,rfl,⟨_,_,_,_,rfl,_⟩,⟨_,_,_,_,rfl,_⟩,_⟩:=id hQ;have hs:=bz.step hs hb;have x0:=aj x0 hb;have x1:=aj x1 hb;have x2:=aj x2 hb;have y0:=aj y0 hb;have y1:=aj y1 hb;have y2:=aj y2 hb;have hx:=hx.mono hb;have B0:=B0.mono hb;have B1:=B1.mono hb;have hy:=hy.mono hb;have B2:=B2.mono hb;have B3:=B3.mono hb;have hz:=hz.mono hb;have hn:=hn.mono hb;obtain⟨z0,z1,z2⟩:=hz.cells;have hf:=hz.free))
 go_wp2
 exact tr rfl rfl rfl hz (hz.noInt (by simp) (by simp) (by simp)) rfl (rfl) hQ hs (by omega)
theorem r_Cmp_calls (vx vy:Value) (x y:Rat) (K:Nat) (w:World) (hx:RV w vx x) (hy:RV w vy y) (hK:K≤134217728) (sx:SzQ K x) (sy:SzQ K y):
  Calls Tryz.prog 57 #[vx,vy] w (RetI w (.int .i64 (sgQ (x - y)))):=by
 obtain⟨xn,xd,xe,rfl,B0,B1,Ba⟩:=id hx
 obtain⟨yn,yd,ye,rfl,B2,B3,Bh⟩:=id hy
 obtain⟨a1,n1,c1,l1,rfl,_⟩:=id B0
 obtain⟨a2,n2,c2,l2,rfl,_⟩:=id B1
 obtain⟨a3,n3,c3,l3,rfl,_⟩:=id B2
 obtain⟨a4,n4,c4,l4,rfl,_⟩:=id B3
 clear Ba Bh
 generalize hsx:ng x=bx at *
 have HSX:=Lib.hid hsx
 clear hsx
 generalize hsy:ng y=bY at *
 have HSY:=Lib.hid hsy
 clear hsy
 go_enter Tryz.func57,Tryz.ntmps57
 go_wp2_with fail
 generalize hw0:((w.alloc (.cells #[.bool bx,.slice a1 n1 c1,.slice a2 n2 c2] 53)).alloc (.cells #[.bool bY,.slice a3 n3 c3,.slice a4 n4 c4] 53))=w0
 have hs:bz w w0:=by rw[←hw0];exact (((Below.refl _ _).alloc (by first|exact Nat.le_refl _|(simp;done)|(simp;omega)) _).alloc (by first|exact Nat.le_refl _|(simp;done)|(simp;omega)) _)
 have B8:df w0 (w.heap.size) (.bool bx) (.slice a1 n1 c1) (.slice a2 n2 c2):=by rw[←hw0];exact (df.new' _ _ _ _ _ _ (by first|rfl|(simp;done))).alloc _
 have Bg:df w0 (w.heap.size + 1) (.bool bY) (.slice a3 n3 c3) (.slice a4 n4 c4):=by rw[←hw0];exact df.new' _ _ _ _ _ _ (by first|rfl|(simp;done))
 have hx:=hs.rv hx
 have B0:=hs.nv B0
 have B1:=hs.nv B1
 have hy:=hs.rv hy
 have B2:=hs.nv B2
 have B3:=hs.nv B3
 clear hw0
 obtain⟨x0,x1,x2⟩:=B8.cells
 obtain⟨y0,y1,y2⟩:=Bg.cells
 refine (r_Sub_calls _ _ x y K _ hx hy hK sx sy).mono ?_
 rintro e w1 ⟨_,rfl,hd,hb⟩
 obtain⟨_,_,_,rfl,⟨_,_,_,_,rfl,_⟩,⟨_,_,_,_,rfl,_⟩,_⟩:=id hd
 have hs:=bz.step hs hb
 have x0:=aj x0 hb
 have x1:=aj x1 hb
 have x2:=aj x2 hb
 have y0:=aj y0 hb
 have y1:=aj y1 hb
 have y2:=aj y2 hb
 have hx:=hx.mono hb
 have B0:=B0.mono hb
 have B1:=B1.mono hb
 have hy:=hy.mono hb
 have B2:=B2.mono hb
 have B3:=B3.mono hb
 go_wp2_with fail
 refine (r_Sign_calls _ _ _ hd).mono ?_
 rintro e w9 ⟨rfl,hb⟩
 have hs:=bz.step hs hb
 go_wp2
 go_ret
 exact⟨rfl,hs⟩
theorem r_Div_calls (vx vy:Value) (x y:Rat) (K:Nat) (w:World) (hx:RV w vx x) (hy:RV w vy y) (hK:K≤134217728) (sx:SzQ K x) (sy:SzQ K y) (hy0:y≠0):
  Calls Tryz.prog 125 #[vx,vy] w (RetQE w (x / y) 0):=by
 obtain⟨xn,xd,xe,rfl,B0,B1,Ba⟩:=id hx
 obtain⟨yn,yd,ye,rfl,B2,B3,Bh⟩:=id hy
 obtain⟨a1,n1,c1,l1,rfl,_⟩:=id B0
 obtain⟨a2,n2,c2,l2,rfl,_⟩:=id B1
 obtain⟨a3,n3,c3,l3,rfl,_⟩:=id B2
 obtain⟨a4,n4,c4,l4,rfl,_⟩:=id B3
 clear Ba Bh
 have Bd:=sx.1
 have Be:=sx.2
 have sy1:=sy.1
 have sy2:=sy.2
 have hn0:y.num.natAbs≠0:=fun h=>hy0 ((jd y).1 h)
 have hd0:x.den * y.num.natAbs≠0:=Nat.mul_ne_zero x.den_nz hn0
 have zA:x.num.natAbs * y.den < 4294967296 ^ (K + K):=ig Bd sy2
 have zD:x.den * y.num.natAbs < 4294967296 ^ (K + K):=ig Be sy1
 have B7:K≤1099511627776:=by omega
 have hK3:K + K≤536870912:=by omega
 have e1:=div_mk x y hy0
 have hz0:decide (y=0)=false:=decide_eq_false hy0
 generalize hN1:x.num.natAbs * y.den=N1 at *
 generalize hN3:x.den * y.num.natAbs=N3 at *
 generalize x / y=xy at *
 have E1:=Lib.hid e1
 have HN1:=Lib.hid hN1
 have HN3:=Lib.hid hN3
 have HZ0:=Lib.hid hz0
 clear e1 hN1 hN3 hz0 hy0 hn0
 generalize hsx:ng x=bx at *
 have HSX:=Lib.hid hsx
 clear hsx
 generalize hsy:ng y=bY at *
 have HSY:=Lib.hid hsy
 clear hsy
 go_enter Tryz.func125,Tryz.ntmps125
 go_wp2_with fail
 generalize hw0:(((w.alloc (.cells #[.bool bx,.slice a1 n1 c1,.slice a2 n2 c2] 53)).alloc (.cells #[.bool bY,.slice a3 n3 c3,.slice a4 n4 c4] 53)).alloc (.cells #[.bool false,.slice none 0 0,.slice none 0 0] 53))=w0
 have hs:bz w w0:=by rw[←hw0];exact ((((Below.refl _ _).alloc (by first|exact Nat.le_refl _|(simp;done)|(simp;omega)) _).alloc (by first|exact Nat.le_refl _|(simp;done)|(simp;omega)) _).alloc (by first|exact Nat.le_refl _|(simp;done)|(simp;omega)) _)
 have B8:df w0 (w.heap.size) (.bool bx) (.slice a1 n1 c1) (.slice a2 n2 c2):=by rw[←hw0];exact ((df.new' _ _ _ _ _ _ (by first|rfl|(simp;done))).alloc _).alloc _
 have Bg:df w0 (w.heap.size + 1) (.bool bY) (.slice a3 n3 c3) (.slice a4 n4 c4):=by rw[←hw0];exact (df.new' _ _ _ _ _ _ (by first|rfl|(simp;done))).alloc _
 have hz:df w0 (w.heap.size + 1 + 1) (.bool false) (.slice none 0 0) (.slice none 0 0):=by rw[←hw0];exact df.new' _ _ _ _ _ _ (by first|rfl|(simp;done))
 have hx:=hs.rv hx
 have B0:=hs.nv B0
 have B1:=hs.nv B1
 have hy:=hs.rv hy
 have B2:=hs.nv B2
 have B3:=hs.nv B3
 clear hw0
 obtain⟨x0,x1,x2⟩:=B8.cells
 have Bb:w.heap.size≠w.heap.size + 1 + 1:=by omega
 obtain⟨y0,y1,y2⟩:=Bg.cells
 have Bc:w.heap.size + 1≠w.heap.size + 1 + 1:=by omega
 refine (ko _ _ _ hy).mono ?_
 rintro e w8 ⟨rfl,hb⟩
 have hs:=bz.step hs hb
 have x0:=aj x0 hb
 have x1:=aj x1 hb
 have x2:=aj x2 hb
 have y0:=aj y0 hb
 have y1:=aj y1 hb
 have y2:=aj y2 hb
 have hx:=hx.mono hb
 have B0:=B0.mono hb
 have B1:=B1.mono hb
 have hy:=hy.mono hb
 have B2:=B2.mono hb
 have B3:=B3.mono hb
 have hz:=hz.mono hb
 rw[HZ0.out]
 go_wp2
 have hs:=bz.step hs (ak _)
 have x0:=aj x0 (ak _)
 have x1:=aj x1 (ak _)
 have x2:=aj x2 (ak _)
 have y0:=aj y0 (ak _)
 have y1:=aj y1 (ak _)
 have y2:=aj y2 (ak _)
 have hx:=hx.mono (ak _)
 have B0:=B0.mono (ak _)
 have B1:=B1.mono (ak _)
 have hy:=hy.mono (ak _)
 have B2:=B2.mono (ak _)
 have B3:=B3.mono (ak _)
 have hz:=hz.mono (ak _)
 go_region_held3 (fun w'=>w'.cell? ⟨w.heap.size,0,none⟩=some (.bool bx)∧w'.cell? ⟨w.heap.size,1,none⟩=some (.slice a1 n1 c1)∧w'.cell? ⟨w.heap.size,2,none⟩=some (.slice a2 n2 c2)∧w'.cell? ⟨w.heap.size + 1,0,none⟩=some (.bool bY)∧w'.cell? ⟨w.heap.size + 1,1,none⟩=some (.slice a3 n3 c3)∧w'.cell? ⟨w.heap.size + 1,2,none⟩=some (.slice a4 n4 c4))
  (first|exact⟨x0,x1,x2,y0,y1,y2⟩|exact⟨er x0 Bb,er x1 Bb,er x2 Bb,er y0 Bc,er y1 Bc,er y2 Bc⟩|go_keep)
  (first
   | (go_at_call 90;(with_reducible refine (dl _ y _ hy).mono ?_);rintro e w1 ⟨_,rfl,B4,hb⟩;obtain⟨_,_,_,_,rfl,_⟩:=id B4;have hs:=bz.step hs hb;have x0:=aj x0 hb;have x1:=aj x1 hb;have x2:=aj x2 hb;have y0:=aj y0 hb;have y1:=aj y1 hb;have y2:=aj y2 hb;have hx:=hx.mono hb;have B0:=B0.mono hb;have B1:=B1.mono hb;have hy:=hy.mono hb;have B2:=B2.mono hb;have B3:=B3.mono hb;have hz:=hz.mono hb)
   | (go_at_call 126;(with_reducible refine (jx B0 B4 Bd sy2 B7 B7).mono ?_);rintro e w2 ⟨_,rfl,hA,hb⟩;obtain⟨_,_,_,_,rfl,_⟩:=id hA;have hs:=bz.step hs hb;have x0:=aj x0 hb;have x1:=aj x1 hb;have x2:=aj x2 hb;have y0:=aj y0 hb;have y1:=aj y1 hb;have y2:=aj y2 hb;have hx:=hx.mono hb;have B0:=B0.mono hb;have B1:=B1.mono hb;have hy:=hy.mono hb;have B2:=B2.mono hb;have B3:=B3.mono hb;have hz:=hz.mono hb;have B4:=B4.mono hb;rw[HN1.out] at hA)
   | (go_at_call 90;(with_reducible refine (dl _ x _ hx).mono ?_);rintro e w3 ⟨_,rfl,B5,hb⟩;obtain⟨_,_,_,_,rfl,_⟩:=id B5;have hs:=bz.step hs hb;have x0:=aj x0 hb;have x1:=aj x1 hb;have x2:=aj x2 hb;have y0:=aj y0 hb;have y1:=aj y1 hb;have y2:=aj y2 hb;have hx:=hx.mono hb;have B0:=B0.mono hb;have B1:=B1.mono hb;have hy:=hy.mono hb;have B2:=B2.mono hb;have B3:=B3.mono hb;have hz:=hz.mono hb;have B4:=B4.mono hb;have hA:=hA.mono hb)
   | (go_at_call 126;(with_reducible refine (jx B5 B2 Be sy1 B7 B7).mono ?_);rintro e w4 ⟨_,rfl,Bf,hb⟩;obtain⟨_,_,_,_,rfl,_⟩:=id Bf;have hs:=bz.step hs hb;have x0:=aj x0 hb;have x1:=aj x1 hb;have x2:=aj x2 hb;have y0:=aj y0 hb;have y1:=aj y1 hb;have y2:=aj y2 hb;have hx:=hx.mono hb;have B0:=B0.mono hb;have B1:=B1.mono hb;have hy:=hy.mono hb;have B2:=B2.mono hb;have B3:=B3.mono hb;have hz:=hz.mono hb;have B4:=B4.mono hb;have hA:=hA.mono hb;have B5:=B5.mono hb;rw[HN3.out] at Bf)
   | (go_at_call 92;(with_reducible refine (jr _ _ _ _ _ _ _ hA Bf hd0 hK3 zA zD).mono ?_);rintro e w5 ⟨_,rfl,hQ,hb⟩;obtain⟨_,_,_,rfl,⟨_,_,_,_,rfl,_⟩,⟨_,_,_,_,rfl,_⟩,_⟩:=id hQ;have hs:=bz.step hs hb;have x0:=aj x0 hb;have x1:=aj x1 hb;have x2:=aj x2 hb;have y0:=aj y0 hb;have y1:=aj y1 hb;have y2:=aj y2 hb;have hx:=hx.mono hb;have B0:=B0.mono hb;have B1:=B1.mono hb;have hy:=hy.mono hb;have B2:=B2.mono hb;have B3:=B3.mono hb;have hz:=hz.mono hb;have B4:=B4.mono hb;have hA:=hA.mono hb;have B5:=B5.mono hb;have Bf:=Bf.mono hb;obtain⟨z0,z1,z2⟩:=hz.cells;have hf:=hz.free))
 go_wp2
 exact ret_RV2 rfl rfl rfl rfl hz (hz.noInt (by simp) (by simp) (by simp)) rfl (E1.out.trans (by cases bx<;>cases bY<;>rfl)) hQ hs (by omega)
theorem int_mk (n:Int):(n:Rat)=mkQ (decide (n < 0)) n.natAbs 1:=by
 unfold mkQ
 rw[show (if decide (n < 0)=true then -((n.natAbs:Nat):Int) else ((n.natAbs:Nat):Int))=n from by split<;>simp_all<;>omega,Rat.mkRat_one]
theorem frac_mk (n d:Int) (hd:d≠0):(n:Rat) / (d:Rat)=mkQ (decide (n < 0) != decide (d < 0)) n.natAbs d.natAbs:=by
 have h:=div_mk (n:Rat) (d:Rat) (by rwa [Ne,Rat.intCast_eq_zero_iff])
 rw[h]
 simp only[ng,Rat.num_intCast,Rat.den_intCast,Nat.mul_one,Nat.one_mul]
 rfl
theorem lt_pow2 {n:Nat} (h:n≤9223372036854775808):n < 4294967296 ^ 2:=by omega
theorem zl (n:Int) (w:World) (h0: -9223372036854775808≤n) (h1:n≤9223372036854775807):Calls Tryz.prog 55 #[.int .i64 n] w (rx w (n:Rat)):=by
 rw[int_mk]
 have z1:n.natAbs < 4294967296 ^ 2:=lt_pow2 (by omega)
 have z2:1 < 4294967296 ^ 2:=by omega
 have o1:1≠0:=by omega
 have o2:2≤536870912:=by omega
 have Z1:=Lib.hid z1
 clear z1
 generalize hneg:decide (n < 0)=b
 go_enter Tryz.func55,Tryz.ntmps55
 go_wp2_with fail
 generalize hw0:(w.alloc (.cells #[.bool false,.slice none 0 0,.slice none 0 0] 53))=w0
 have hs:bz w w0:=by rw[←hw0];exact (Below.refl _ _).alloc (Nat.le_refl _) _
 have hz:df w0 w.heap.size (.bool false) (.slice none 0 0) (.slice none 0 0):=by rw[←hw0];exact df.new' _ _ _ _ _ _ rfl
 clear hw0
 refine (xa n _ h0 h1).mono ?_
 rintro e w1 ⟨_,rfl,hm,hb⟩
 obtain⟨_,_,_,_,rfl,_⟩:=id hm
 have hs:=bz.step hs hb
 have hz:=hz.mono hb
 go_wp2_with fail
 refine (rn_Nat 1 _ (by omega)).mono ?_
 rintro e w2 ⟨_,rfl,Bi,hb⟩
 obtain⟨_,_,_,_,rfl,_⟩:=id Bi
 have hs:=bz.step hs hb
 have hz:=hz.mono hb
 have hm:=hm.mono hb
 go_wp2_with fail
 refine (jr _ _ _ _ _ _ _ hm Bi o1 o2 Z1.out z2).mono ?_
 rintro e w3 ⟨_,rfl,hQ,hb⟩
 obtain⟨_,_,_,rfl,⟨_,_,_,_,rfl,_⟩,⟨_,_,_,_,rfl,_⟩,_⟩:=id hQ
 have hs:=bz.step hs hb
 have hz:=hz.mono hb
 have hm:=hm.mono hb
 have Bi:=Bi.mono hb
 obtain⟨z0,z1,z2⟩:=hz.cells
 have hf:=hz.free
 go_wp2
 exact tr rfl rfl rfl hz (hz.noInt (by simp) (by simp) (by simp)) rfl (rfl) hQ hs (Nat.le_refl _)
def qh (q:Rat):List UInt8:=(if ng q then [45] else []) ++ dw q.num.natAbs ++ (if q.den=1 then [] else 47 ::dw q.den)
theorem decS_len {n K:Nat} (h:n < 4294967296 ^ K):(dw n).length≤32 * K + 1:=by
 unfold dw
 split
 ·simp
 have h1:=qw n
 have h2:bl n≤32 * K:=jy (by rwa [show (4294967296:Nat)=2 ^ 32 from rfl,←Nat.pow_mul] at h)
 omega
theorem oh (w:World) (P:Program) (a b:List UInt8) (h:a.length + b.length≤9223372036854775807):(Op.stringOp .add ⟨a.toArray⟩ ⟨b.toArray⟩).run P w=.ok (.string ⟨(a ++ b).toArray⟩) w:=by
 rw[run_string_add_sum,ja]
 simp only[ByteArray.size,List.size_toArray]
 exact h
theorem r_Text_calls (vx:Value) (x:Rat) (K:Nat) (w:World) (hx:RV w vx x) (hK:K≤134217728) (sx:SzQ K x):
  Calls Tryz.prog 54 #[vx] w (RetI w (ib (qh x))):=by
 obtain⟨xn,xd,xe,rfl,B0,B1,Ba⟩:=id hx
 obtain⟨a1,n1,c1,l1,rfl,_⟩:=id B0
 obtain⟨a2,n2,c2,l2,rfl,_⟩:=id B1
 clear Ba
 have Bd:=sx.1
 have Be:=sx.2
 have l1:=decS_len Bd
 have l2:=decS_len Be
 have B7:K≤536870912:=by omega
 have htx:qh x=(if ng x then [45] else []) ++ dw x.num.natAbs ++ (if x.den=1 then [] else 47 ::dw x.den):=rfl
 have Bj:(gn x.den 1 != 0)=decide (x.den≠1):=by
  unfold gn
  have:=x.den_pos
  by_cases h:x.den=1
  ·rw[h];decide
  rw[if_neg (by omega),if_pos (by omega)];simp[h]
 generalize qh x=T at *
 generalize hsx:ng x=bx at *
 have HT:=Lib.hid htx
 have HO:=Lib.hid Bj
 clear htx Bj hsx
 cases bx
 ·go_enter Tryz.func54,Tryz.ntmps54
  go_wp2_with fail
  generalize hw0:(w.alloc (.cells #[.bool false,.slice a1 n1 c1,.slice a2 n2 c2] 53))=w0
  have hs:bz w w0:=by rw[←hw0];exact ((Below.refl _ _).alloc (by first|exact Nat.le_refl _|(simp;done)|(simp;omega)) _)
  have B8:df w0 (w.heap.size) (.bool false) (.slice a1 n1 c1) (.slice a2 n2 c2):=by rw[←hw0];exact df.new' _ _ _ _ _ _ (by first|rfl|(simp;done))
  have hx:=hs.rv hx
  have B0:=hs.nv B0
  have B1:=hs.nv B1
  clear hw0
  obtain⟨x0,x1,x2⟩:=B8.cells
  refine (uf B0 Bd B7).mono ?_
  rintro e w1 ⟨rfl,hb⟩
  have hs:=bz.step hs hb
  have x0:=aj x0 hb
  have x1:=aj x1 hb
  have x2:=aj x2 hb
  have hx:=hx.mono hb
  have B0:=B0.mono hb
  have B1:=B1.mono hb
  unfold ib
  go_wp2_with fail
  refine (dl _ x _ hx).mono ?_
  rintro e w1 ⟨_,rfl,B4,hb⟩
  obtain⟨_,_,_,_,rfl,_⟩:=id B4
  have hs:=bz.step hs hb
  have x0:=aj x0 hb
  have x1:=aj x1 hb
  have x2:=aj x2 hb
  have hx:=hx.mono hb
  have B0:=B0.mono hb
  have B1:=B1.mono hb
  go_wp2_with fail
  refine (rn_Nat 1 _ (by omega)).mono ?_
  rintro e w2 ⟨_,rfl,B5,hb⟩
  obtain⟨_,_,_,_,rfl,_⟩:=id B5
  have hs:=bz.step hs hb
  have x0:=aj x0 hb
  have x1:=aj x1 hb
  have x2:=aj x2 hb
  have hx:=hx.mono hb
  have B0:=B0.mono hb
  have B1:=B1.mono hb
  have B4:=B4.mono hb
  go_wp2_with fail
  refine (je9 B4 B5).mono ?_
  rintro e w7 ⟨rfl,hb⟩
  have hs:=bz.step hs hb
  have x0:=aj x0 hb
  have x1:=aj x1 hb
  have x2:=aj x2 hb
  have hx:=hx.mono hb
  have B0:=B0.mono hb
  have B1:=B1.mono hb
  have B4:=B4.mono hb
  have B5:=B5.mono hb
  by_cases h1:x.den=1
  ·have ho:=HO.out
   rw[h1] at ho ⊢
   have hor:gn 1 1=0:=by decide
   rw[hor]
   clear ho
   have HH:=Lib.hid h1
   clear h1
   go_wp2
   go_ret
   refine⟨?_,hs⟩
   rw[HT.out,if_pos HH.out]
   simp[ib]
  have ho:gn x.den 1≠0:=by have:=HO.out;rw[decide_eq_true h1] at this;simpa using this
  have ho1:(gn x.den 1 == 0)=false:=by rw[beq_eq_false_iff_ne];exact ho
  have HH:=Lib.hid h1
  clear h1 ho
  have B6:∀W:World,(Op.stringOp .add ⟨(dw x.num.natAbs).toArray⟩ ⟨#[47]⟩).run Tryz.prog W=.ok (.string ⟨((dw x.num.natAbs) ++ [47]).toArray⟩) W:=fun W=>oh W _ (dw x.num.natAbs) [47] (by simp only[List.length_cons,List.length_nil];omega)
  go_wp2_with fail
  clear B6
  refine (dl _ x _ hx).mono ?_
  rintro e w3 ⟨_,rfl,B9,hb⟩
  obtain⟨_,_,_,_,rfl,_⟩:=id B9
  have hs:=bz.step hs hb
  have x0:=aj x0 hb
  have x1:=aj x1 hb
  have x2:=aj x2 hb
  have hx:=hx.mono hb
  have B0:=B0.mono hb
  have B1:=B1.mono hb
  have B4:=B4.mono hb
  have B5:=B5.mono hb
  go_wp2_with fail
  refine (uf B9 Be B7).mono ?_
  rintro e w9 ⟨rfl,hb⟩
  have hs:=bz.step hs hb
  have x0:=aj x0 hb
  have x1:=aj x1 hb
  have x2:=aj x2 hb
  have hx:=hx.mono hb
  have B0:=B0.mono hb
  have B1:=B1.mono hb
  have B4:=B4.mono hb
  have B5:=B5.mono hb
  have B9:=B9.mono hb
  unfold ib
  have B6:∀W:World,(Op.stringOp .add ⟨((dw x.num.natAbs) ++ [47]).toArray⟩ ⟨(dw x.den).toArray⟩).run Tryz.prog W=.ok (.string ⟨(((dw x.num.natAbs) ++ [47]) ++ dw x.den).toArray⟩) W:=fun W=>oh W _ ((dw x.num.natAbs) ++ [47]) (dw x.den) (by simp only[List.length_append,List.length_cons,List.length_nil];omega)
  go_wp2
  go_ret
  refine⟨?_,hs⟩
  rw[HT.out,if_neg HH.out]
  first|(simp[ib];done)|(simp[ib,ja])
 go_enter Tryz.func54,Tryz.ntmps54
 go_wp2_with fail
 generalize hw0:(w.alloc (.cells #[.bool true,.slice a1 n1 c1,.slice a2 n2 c2] 53))=w0
 have hs:bz w w0:=by rw[←hw0];exact ((Below.refl _ _).alloc (by first|exact Nat.le_refl _|(simp;done)|(simp;omega)) _)
 have B8:df w0 (w.heap.size) (.bool true) (.slice a1 n1 c1) (.slice a2 n2 c2):=by rw[←hw0];exact df.new' _ _ _ _ _ _ (by first|rfl|(simp;done))
 have hx:=hs.rv hx
 have B0:=hs.nv B0
 have B1:=hs.nv B1
 clear hw0
 obtain⟨x0,x1,x2⟩:=B8.cells
 refine (uf B0 Bd B7).mono ?_
 rintro e w1 ⟨rfl,hb⟩
 have hs:=bz.step hs hb
 have x0:=aj x0 hb
 have x1:=aj x1 hb
 have x2:=aj x2 hb
 have hx:=hx.mono hb
 have B0:=B0.mono hb
 have B1:=B1.mono hb
 unfold ib
 have B6:∀W:World,(Op.stringOp .add ⟨#[45]⟩ ⟨(dw x.num.natAbs).toArray⟩).run Tryz.prog W=.ok (.string ⟨(45 ::dw x.num.natAbs).toArray⟩) W:=fun W=>oh W _ [45] (dw x.num.natAbs) (by simp only[List.length_cons,List.length_nil];omega)
 go_wp2_with fail
 clear B6
 refine (dl _ x _ hx).mono ?_
 rintro e w1 ⟨_,rfl,B4,hb⟩
 obtain⟨_,_,_,_,rfl,_⟩:=id B4
 have hs:=bz.step hs hb
 have x0:=aj x0 hb
 have x1:=aj x1 hb
 have x2:=aj x2 hb
 have hx:=hx.mono hb
 have B0:=B0.mono hb
 have B1:=B1.mono hb
 go_wp2_with fail
 refine (rn_Nat 1 _ (by omega)).mono ?_
 rintro e w2 ⟨_,rfl,B5,hb⟩
 obtain⟨_,_,_,_,rfl,_⟩:=id B5
 have hs:=bz.step hs hb
 have x0:=aj x0 hb
 have x1:=aj x1 hb
 have x2:=aj x2 hb
 have hx:=hx.mono hb
 have B0:=B0.mono hb
 have B1:=B1.mono hb
 have B4:=B4.mono hb
 go_wp2_with fail
 refine (je9 B4 B5).mono ?_
 rintro e w7 ⟨rfl,hb⟩
 have hs:=bz.step hs hb
 have x0:=aj x0 hb
 have x1:=aj x1 hb
 have x2:=aj x2 hb
 have hx:=hx.mono hb
 have B0:=B0.mono hb
 have B1:=B1.mono hb
 have B4:=B4.mono hb
 have B5:=B5.mono hb
 by_cases h1:x.den=1
 ·have ho:=HO.out
  rw[h1] at ho ⊢
  have hor:gn 1 1=0:=by decide
  rw[hor]
  clear ho
  have HH:=Lib.hid h1
  clear h1
  go_wp2
  go_ret
  refine⟨?_,hs⟩
  rw[HT.out,if_pos HH.out]
  simp[ib]
 have ho:gn x.den 1≠0:=by have:=HO.out;rw[decide_eq_true h1] at this;simpa using this
 have ho1:(gn x.den 1 == 0)=false:=by rw[beq_eq_false_iff_ne];exact ho
 have HH:=Lib.hid h1
 clear h1 ho
 have B6:∀W:World,(Op.stringOp .add ⟨(45 ::dw x.num.natAbs).toArray⟩ ⟨#[47]⟩).run Tryz.prog W=.ok (.string ⟨((45 ::dw x.num.natAbs) ++ [47]).toArray⟩) W:=fun W=>oh W _ (45 ::dw x.num.natAbs) [47] (by simp only[List.length_cons,List.length_nil];omega)
 go_wp2_with fail
 clear B6
 refine (dl _ x _ hx).mono ?_
 rintro e w3 ⟨_,rfl,B9,hb⟩
 obtain⟨_,_,_,_,rfl,_⟩:=id B9
 have hs:=bz.step hs hb
 have x0:=aj x0 hb
 have x1:=aj x1 hb
 have x2:=aj x2 hb
 have hx:=hx.mono hb
 have B0:=B0.mono hb
 have B1:=B1.mono hb
 have B4:=B4.mono hb
 have B5:=B5.mono hb
 go_wp2_with fail
 refine (uf B9 Be B7).mono ?_
 rintro e w9 ⟨rfl,hb⟩
 have hs:=bz.step hs hb
 have x0:=aj x0 hb
 have x1:=aj x1 hb
 have x2:=aj x2 hb
 have hx:=hx.mono hb
 have B0:=B0.mono hb
 have B1:=B1.mono hb
 have B4:=B4.mono hb
 have B5:=B5.mono hb
 have B9:=B9.mono hb
 unfold ib
 have B6:∀W:World,(Op.stringOp .add ⟨((45 ::dw x.num.natAbs) ++ [47]).toArray⟩ ⟨(dw x.den).toArray⟩).run Tryz.prog W=.ok (.string ⟨(((45 ::dw x.num.natAbs) ++ [47]) ++ dw x.den).toArray⟩) W:=fun W=>oh W _ ((45 ::dw x.num.natAbs) ++ [47]) (dw x.den) (by simp only[List.length_append,List.length_cons,List.length_nil];omega)
 go_wp2
 go_ret
 refine⟨?_,hs⟩
 rw[HT.out,if_neg HH.out]
 first|(simp[ib];done)|(simp[ib,ja])
end Go.Proofs.YtbnomdlojmgigaaGreat
