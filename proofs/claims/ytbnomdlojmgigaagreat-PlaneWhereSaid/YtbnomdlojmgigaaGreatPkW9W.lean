/-
  The contracts of the reference's fractions, second part: the numbers' contracts said of values; Add.
-/
import Derived.Test.YtbnomdlojmgigaaGreatPkW8W
import Derived.StillTailTactics
set_option linter.unusedSimpArgs false
set_option linter.unusedVariables false
set_option maxRecDepth 100000
set_option maxHeartbeats 4000000
namespace Go.Proofs.YtbnomdlojmgigaaGreat
open Go.RowKit Dg
attribute [local go_sem ↓] Go.wp_at_zero Go.wp_at_succ
theorem aj {w w':World} {a:Addr} {v:Value} (h:w.cell? a=some v) (hb:Below w.heap.size w w'):w'.cell? a=some v:=by
 rw[hb.cell (p:=a) (jw h)];exact h
def bz (w W:World):Prop:=Below w.heap.size w W
theorem bz.step {w W W':World} (h:bz w W) (hb:Below W.heap.size W W'):bz w W':=Below.trans h (hb.mono (Below.size h))
theorem bz.refl (w:World):bz w w:=Below.refl _ _
theorem bz.rv {w W:World} {v:Value} {q:Rat} (hs:bz w W) (h:RV w v q):RV W v q:=h.mono hs
theorem bz.nv {k:IntKind} {B:Nat} {w W:World} {v:Value} {x:Nat} (hs:bz w W) (h:ck k B w v x):ck k B W v x:=h.mono hs
theorem si.n {k:IntKind} {B:Nat} {w:World} {x:Nat} {e:Ending} {w':World} (h:si k B w x e w'):ux k B w x e w':=let ⟨v,e,hv,hb,_⟩:=h;⟨v,e,hv,hb⟩
def RetI (w:World) (v:Value) (e:Ending) (w':World):Prop:=e=.returned v∧Below w.heap.size w w'
theorem df.mono {w w':World} {g:Nat} {u0 u1 u2:Value} (h:df w g u0 u1 u2) (hb:Below w.heap.size w w'):df w' g u0 u1 u2:=h.below hb
theorem er {w:World} {b o g:Nat} {v u0 u1 u2:Value} (h:w.cell? ⟨b,o,none⟩=some v) (hne:b≠g):(((w.setCell ⟨g,0,none⟩ u0).setCell ⟨g,1,none⟩ u1).setCell ⟨g,2,none⟩ u2).cell? ⟨b,o,none⟩=some v:=by
 rw[World.cell?_setCell_other _ _ _ _ (by intro e;simp only[Addr.mk.injEq] at e;omega),World.cell?_setCell_other _ _ _ _ (by intro e;simp only[Addr.mk.injEq] at e;omega),World.cell?_setCell_other _ _ _ _ (by intro e;simp only[Addr.mk.injEq] at e;omega)]
 exact h
theorem yw (w:World) (q:Nat):Below w.heap.size w (w.drewN q):=it (Below.refl _ _) q
theorem tr {fn:Func} {p:Tmp} {w0 w1 w:World} {g:Nat} {q:Rat} {s:Bool} {v1 v2 u0 u1 u2:Value} {a:Act} (hr:fn.results=#[.cell p 53]) (ha:a.tmps.getD p undef=.pointer (some ⟨g,0,none⟩)) (hdef:a.defers=[])
  (hbox:df w1 g u0 u1 u2) (hni:nz w1 g) (hw:w=((w1.setCell ⟨g,0,none⟩ (.bool s)).setCell ⟨g,1,none⟩ v1).setCell ⟨g,2,none⟩ v2)
  {q':Rat} (hq:q=q') (h:RV w1 (.agg #[.bool s,v1,v2]) q') (hb:bz w0 w1) (hg:w0.heap.size≤g):
  bodyPost Tryz.prog fn (rx w0 q) .ret a w:=by
 subst hq
 obtain⟨vn,vd,d,e,h1,h2,hd⟩:=h
 simp only[Value.agg.injEq,Array.mk.injEq,List.cons.injEq,Value.bool.injEq] at e
 obtain⟨rfl,rfl,rfl,_⟩:=e
 exact ret_R hr ha hdef hbox hni hw rfl h1 h2 hd hb hg
theorem rn_Nat (x:Nat) (w:World) (h:x < 18446744073709551616):Calls Tryz.prog 91 #[.int .u64 (x:Int)] w (ux .u32 4294967296 w x):=by
 have:=(jj x w (by omega) (by omega)).mono fun e w' h=>h.n
 rwa [Int.toNat_natCast] at this
theorem rn_Sum {v1 v2:Value} {x y K:Nat} {w:World} (h1:ck .u32 4294967296 w v1 x) (h2:ck .u32 4294967296 w v2 y) (hx:x < 4294967296 ^ K) (hy:y < 4294967296 ^ K) (hK:K≤1099511627776):
  Calls Tryz.prog 151 #[v1,v2] w (ux .u32 4294967296 w (x + y)):=by
 obtain⟨a1,n1,c1,l1,rfl,Bb,Ba,rfl,hn1⟩:=h1.sz hx
 obtain⟨a2,n2,c2,l2,rfl,Be,Bd,rfl,hn2⟩:=h2.sz hy
 exact (r_Sum_calls _ _ _ _ _ _ _ _ _ Bb Be Ba.1 Bd.1 (by omega) (by omega)).mono fun e w' h=>h.n
theorem um {v1 v2:Value} {x y K:Nat} {w:World} (h1:ck .u32 4294967296 w v1 x) (h2:ck .u32 4294967296 w v2 y) (hx:x < 4294967296 ^ K) (hy:y≤x) (hK:K≤1099511627776):
  Calls Tryz.prog 149 #[v1,v2] w (ux .u32 4294967296 w (x - y)):=by
 obtain⟨a1,n1,c1,l1,rfl,Bb,Ba,rfl,hn1⟩:=h1.sz hx
 obtain⟨a2,n2,c2,l2,rfl,Be,Bd,rfl⟩:=h2
 exact (pj _ _ _ _ _ _ _ _ _ Bb Be Ba Bd hy (by omega)).mono fun e w' h=>h.n
theorem jx {v1 v2:Value} {x y K L:Nat} {w:World} (h1:ck .u32 4294967296 w v1 x) (h2:ck .u32 4294967296 w v2 y) (hx:x < 4294967296 ^ K) (hy:y < 4294967296 ^ L) (hK:K≤1099511627776) (hL:L≤1099511627776):
  Calls Tryz.prog 126 #[v1,v2] w (ux .u32 4294967296 w (x * y)):=by
 obtain⟨a1,n1,c1,l1,rfl,Bb,Ba,rfl,hn1⟩:=h1.sz hx
 obtain⟨a2,n2,c2,l2,rfl,Be,Bd,rfl,hn2⟩:=h2.sz hy
 exact (mu _ _ _ _ _ _ _ _ _ Bb Be Ba.1 Bd.1 (by omega) (by omega)).mono fun e w' h=>h.n
theorem je9 {v1 v2:Value} {x y:Nat} {w:World} (h1:ck .u32 4294967296 w v1 x) (h2:ck .u32 4294967296 w v2 y):
  Calls Tryz.prog 89 #[v1,v2] w (RetI w (.int .i64 (gn x y))):=by
 obtain⟨a1,n1,c1,l1,rfl,Bb,Ba,rfl⟩:=h1
 obtain⟨a2,n2,c2,l2,rfl,Be,Bd,rfl⟩:=h2
 exact (mf _ _ _ _ _ _ _ _ _ Bb Be Ba Bd).mono fun e w' ⟨q,he,hw⟩=>⟨he,by rw[hw];exact yw w q⟩
theorem uf {v1:Value} {x K:Nat} {w:World} (h1:ck .u32 4294967296 w v1 x) (hx:x < 4294967296 ^ K) (hK:K≤536870912):
  Calls Tryz.prog 88 #[v1] w fun e w'=>e=.returned (ib (dw x))∧Below w.heap.size w w':=by
 obtain⟨a1,n1,c1,l1,rfl,Bb,Ba,rfl,hn1⟩:=h1.sz hx
 exact je6 _ _ _ _ _ Bb Ba (by omega)
theorem ak (w:World):Below w.heap.size w w.drew:=(Below.refl _ _).drew
theorem r_Add_calls (vx vy:Value) (x y:Rat) (K:Nat) (w:World) (hx:RV w vx x) (hy:RV w vy y) (hK:K≤134217728) (sx:SzQ K x) (sy:SzQ K y):
  Calls Tryz.prog 127 #[vx,vy] w (rx w (x + y)):=by
 obtain⟨xn,xd,xe,rfl,B0,Bj,hxe⟩:=id hx
 obtain⟨yn,yd,ye,rfl,B1,Bk,hye⟩:=id hy
 obtain⟨a1,n1,c1,l1,rfl,_⟩:=id B0
 obtain⟨a2,n2,c2,l2,rfl,_⟩:=id Bj
 obtain⟨a3,n3,c3,l3,rfl,_⟩:=id B1
 obtain⟨a4,n4,c4,l4,rfl,_⟩:=id Bk
 clear Bj hxe Bk hye
 have Bl:=sx.1
 have Bf:=sx.2
 have Bm:=sy.1
 have Bg:=sy.2
 have Bi:x.den * y.den≠0:=Nat.mul_ne_zero x.den_nz y.den_nz
 have zA:x.num.natAbs * y.den < 4294967296 ^ (K + K):=ig Bl Bg
 have zB:y.num.natAbs * x.den < 4294967296 ^ (K + K):=ig Bm Bf
 have zD:x.den * y.den < 4294967296 ^ (K + K):=ig Bf Bg
 have hp:4294967296 ^ (K + K)≤4294967296 ^ (K + K + 1):=Nat.pow_le_pow_right (by omega) (by omega)
 have hp2:2 * 4294967296 ^ (K + K)≤4294967296 ^ (K + K + 1):=by rw[Nat.pow_succ];omega
 have zD':=Nat.lt_of_lt_of_le zD hp
 have B8:K≤1099511627776:=by omega
 have hK2:K + K≤1099511627776:=by omega
 have Bh:K + K + 1≤536870912:=by omega
 have e1:=jb6 x y
 have e2:=uz x y
 have e3:=xu x y
 generalize hN1:x.num.natAbs * y.den=N1 at *
 generalize hN2:y.num.natAbs * x.den=N2 at *
 generalize hN3:x.den * y.den=N3 at *
 have hS':N1 + N2 < 4294967296 ^ (K + K + 1):=by omega
 have hS1:N1 - N2 < 4294967296 ^ (K + K + 1):=by omega
 have hS2:N2 - N1 < 4294967296 ^ (K + K + 1):=by omega
 generalize x + y=xy at *
 generalize hsx:ng x=bx at *
 generalize hsy:ng y=bY at *
 have E1:=Lib.hid e1
 have E2:=Lib.hid e2
 have E3:=Lib.hid e3
 have HN1:=Lib.hid hN1
 have HN2:=Lib.hid hN2
 have HN3:=Lib.hid hN3
 clear e1 e2 e3 hN1 hN2 hN3 hsx hsy hp hp2
 have hSa:=Lib.hid hS'
 have hSb:=Lib.hid hS1
 have hSc:=Lib.hid hS2
 clear hS' hS1 hS2
 go_enter Tryz.func127,Tryz.ntmps127
 go_wp2_with fail
 generalize hw0:((w.alloc (.cells #[.bool bx,.slice a1 n1 c1,.slice a2 n2 c2] 53)).alloc (.cells #[.bool bY,.slice a3 n3 c3,.slice a4 n4 c4] 53)).alloc (.cells #[.bool false,.slice none 0 0,.slice none 0 0] 53)=w0
 have hs:bz w w0:=by rw[←hw0];exact (((Below.refl _ _).alloc (Nat.le_refl _) _).alloc (by simp) _).alloc (by simp;omega) _
 have hbx:df w0 w.heap.size (.bool bx) (.slice a1 n1 c1) (.slice a2 n2 c2):=by rw[←hw0];exact ((df.new w _ _ _ _).alloc _).alloc _
 have hby:df w0 (w.heap.size + 1) (.bool bY) (.slice a3 n3 c3) (.slice a4 n4 c4):=by rw[←hw0];exact (df.new' _ _ _ _ _ _ (by simp)).alloc _
 have hz:df w0 (w.heap.size + 1 + 1) (.bool false) (.slice none 0 0) (.slice none 0 0):=by rw[←hw0];exact df.new' _ _ _ _ _ _ (by simp)
 have hx:=hs.rv hx
 have hy:=hs.rv hy
 have B0:=hs.nv B0
 have B1:=hs.nv B1
 clear hw0
 have B7:w.heap.size≠w.heap.size + 1 + 1:=by omega
 have B9:w.heap.size + 1≠w.heap.size + 1 + 1:=by omega
 obtain⟨x0,x1,x2⟩:=hbx.cells
 obtain⟨y0,y1,y2⟩:=hby.cells
 have hs:=bz.step hs (ak _)
 have x0:=aj x0 (ak _)
 have x1:=aj x1 (ak _)
 have x2:=aj x2 (ak _)
 have y0:=aj y0 (ak _)
 have y1:=aj y1 (ak _)
 have y2:=aj y2 (ak _)
 have hx:=hx.mono (ak _)
 have hy:=hy.mono (ak _)
 have B0:=B0.mono (ak _)
 have B1:=B1.mono (ak _)
 have hz:=hz.mono (ak _)
 go_region_held3 (fun w'=>w'.cell? ⟨w.heap.size,0,none⟩=some (.bool bx)∧w'.cell? ⟨w.heap.size,1,none⟩=some (.slice a1 n1 c1)∧w'.cell? ⟨w.heap.size,2,none⟩=some (.slice a2 n2 c2)∧w'.cell? ⟨w.heap.size + 1,0,none⟩=some (.bool bY)∧w'.cell? ⟨w.heap.size + 1,1,none⟩=some (.slice a3 n3 c3)∧w'.cell? ⟨w.heap.size + 1,2,none⟩=some (.slice a4 n4 c4))
  (first|exact⟨x0,x1,x2,y0,y1,y2⟩|exact⟨er x0 B7,er x1 B7,er x2 B7,er y0 B9,er y1 B9,er y2 B9⟩|go_keep)
  (first
   | (go_at_call 90;(with_reducible refine (dl _ y _ hy).mono ?_);rintro e w1 ⟨_,rfl,B2,hb⟩;obtain⟨_,_,_,_,rfl,_⟩:=id B2;have hs:=bz.step hs hb;have x0:=aj x0 hb;have x1:=aj x1 hb;have x2:=aj x2 hb;have y0:=aj y0 hb;have y1:=aj y1 hb;have y2:=aj y2 hb;have hx:=hx.mono hb;have hy:=hy.mono hb;have B0:=B0.mono hb;have B1:=B1.mono hb;have hz:=hz.mono hb)
   | (go_at_call 126;(with_reducible refine (jx B0 B2 Bl Bg B8 B8).mono ?_);rintro e w2 ⟨_,rfl,hA,hb⟩;obtain⟨_,_,_,_,rfl,_⟩:=id hA;have hs:=bz.step hs hb;have x0:=aj x0 hb;have x1:=aj x1 hb;have x2:=aj x2 hb;have y0:=aj y0 hb;have y1:=aj y1 hb;have y2:=aj y2 hb;have hx:=hx.mono hb;have hy:=hy.mono hb;have B0:=B0.mono hb;have B1:=B1.mono hb;have hz:=hz.mono hb;have B2:=B2.mono hb;rw[HN1.out] at hA)
   | (go_at_call 90;(with_reducible refine (dl _ x _ hx).mono ?_);rintro e w3 ⟨_,rfl,B4,hb⟩;obtain⟨_,_,_,_,rfl,_⟩:=id B4;have hs:=bz.step hs hb;have x0:=aj x0 hb;have x1:=aj x1 hb;have x2:=aj x2 hb;have y0:=aj y0 hb;have y1:=aj y1 hb;have y2:=aj y2 hb;have hx:=hx.mono hb;have hy:=hy.mono hb;have B0:=B0.mono hb;have B1:=B1.mono hb;have hz:=hz.mono hb;have B2:=B2.mono hb;have hA:=hA.mono hb)
   | (go_at_call 126;(with_reducible refine (jx B1 B4 Bm Bf B8 B8).mono ?_);rintro e w4 ⟨_,rfl,hB,hb⟩;obtain⟨_,_,_,_,rfl,_⟩:=id hB;have hs:=bz.step hs hb;have x0:=aj x0 hb;have x1:=aj x1 hb;have x2:=aj x2 hb;have y0:=aj y0 hb;have y1:=aj y1 hb;have y2:=aj y2 hb;have hx:=hx.mono hb;have hy:=hy.mono hb;have B0:=B0.mono hb;have B1:=B1.mono hb;have hz:=hz.mono hb;have B2:=B2.mono hb;have hA:=hA.mono hb;have B4:=B4.mono hb;rw[HN2.out] at hB))
 go_wp2
 have hs:=bz.step hs (ak _)
 have x0:=aj x0 (ak _)
 have x1:=aj x1 (ak _)
 have x2:=aj x2 (ak _)
 have y0:=aj y0 (ak _)
 have y1:=aj y1 (ak _)
 have y2:=aj y2 (ak _)
 have hx:=hx.mono (ak _)
 have hy:=hy.mono (ak _)
 have B0:=B0.mono (ak _)
 have B1:=B1.mono (ak _)
 have hz:=hz.mono (ak _)
 have B2:=B2.mono (ak _)
 have hA:=hA.mono (ak _)
 have B4:=B4.mono (ak _)
 have hB:=hB.mono (ak _)
 go_region_held3 (fun w'=>w'.cell? ⟨w.heap.size,0,none⟩=some (.bool bx)∧w'.cell? ⟨w.heap.size,1,none⟩=some (.slice a1 n1 c1)∧w'.cell? ⟨w.heap.size,2,none⟩=some (.slice a2 n2 c2)∧w'.cell? ⟨w.heap.size + 1,0,none⟩=some (.bool bY)∧w'.cell? ⟨w.heap.size + 1,1,none⟩=some (.slice a3 n3 c3)∧w'.cell? ⟨w.heap.size + 1,2,none⟩=some (.slice a4 n4 c4))
  (first|exact⟨x0,x1,x2,y0,y1,y2⟩|exact⟨er x0 B7,er x1 B7,er x2 B7,er y0 B9,er y1 B9,er y2 B9⟩|go_keep)
  (first
   | (go_at_call 90;(with_reducible refine (dl _ x _ hx).mono ?_);rintro e w5 ⟨_,rfl,B3,hb⟩;obtain⟨_,_,_,_,rfl,_⟩:=id B3;have hs:=bz.step hs hb;have x0:=aj x0 hb;have x1:=aj x1 hb;have x2:=aj x2 hb;have y0:=aj y0 hb;have y1:=aj y1 hb;have y2:=aj y2 hb;have hx:=hx.mono hb;have hy:=hy.mono hb;have B0:=B0.mono hb;have B1:=B1.mono hb;have hz:=hz.mono hb;have B2:=B2.mono hb;have hA:=hA.mono hb;have B4:=B4.mono hb;have hB:=hB.mono hb)
   | (go_at_call 90;(with_reducible refine (dl _ y _ hy).mono ?_);rintro e w6 ⟨_,rfl,B6,hb⟩;obtain⟨_,_,_,_,rfl,_⟩:=id B6;have hs:=bz.step hs hb;have x0:=aj x0 hb;have x1:=aj x1 hb;have x2:=aj x2 hb;have y0:=aj y0 hb;have y1:=aj y1 hb;have y2:=aj y2 hb;have hx:=hx.mono hb;have hy:=hy.mono hb;have B0:=B0.mono hb;have B1:=B1.mono hb;have hz:=hz.mono hb;have B2:=B2.mono hb;have hA:=hA.mono hb;have B4:=B4.mono hb;have hB:=hB.mono hb;have B3:=B3.mono hb)
   | (go_at_call 126;(with_reducible refine (jx B3 B6 Bf Bg B8 B8).mono ?_);rintro e w7 ⟨_,rfl,B5,hb⟩;obtain⟨_,_,_,_,rfl,_⟩:=id B5;have hs:=bz.step hs hb;have x0:=aj x0 hb;have x1:=aj x1 hb;have x2:=aj x2 hb;have y0:=aj y0 hb;have y1:=aj y1 hb;have y2:=aj y2 hb;have hx:=hx.mono hb;have hy:=hy.mono hb;have B0:=B0.mono hb;have B1:=B1.mono hb;have hz:=hz.mono hb;have B2:=B2.mono hb;have hA:=hA.mono hb;have B4:=B4.mono hb;have hB:=hB.mono hb;have B3:=B3.mono hb;have B6:=B6.mono hb;rw[HN3.out] at B5))
 by_cases hbb:bx=bY
 ·subst hbb
  go_wp2
  have hs:=bz.step hs (ak _)
  have x0:=aj x0 (ak _)
  have x1:=aj x1 (ak _)
  have x2:=aj x2 (ak _)
  have y0:=aj y0 (ak _)
  have y1:=aj y1 (ak _)
  have y2:=aj y2 (ak _)
  have hx:=hx.mono (ak _)
  have hy:=hy.mono (ak _)
  have B0:=B0.mono (ak _)
  have B1:=B1.mono (ak _)
  have hz:=hz.mono (ak _)
  have B2:=B2.mono (ak _)
  have hA:=hA.mono (ak _)
  have B4:=B4.mono (ak _)
  have hB:=hB.mono (ak _)
  have B3:=B3.mono (ak _)
  have B6:=B6.mono (ak _)
  have B5:=B5.mono (ak _)
  go_region_held3 (fun w'=>w'.cell? ⟨w.heap.size,0,none⟩=some (.bool bx))
   (first|exact x0|exact er x0 B7|go_keep)
   (first
    | (go_at_call 151;(with_reducible refine (rn_Sum hA hB zA zB hK2).mono ?_);rintro e w8 ⟨_,rfl,hS,hb⟩;obtain⟨_,_,_,_,rfl,_⟩:=id hS;have hs:=bz.step hs hb;have x0:=aj x0 hb;have x1:=aj x1 hb;have x2:=aj x2 hb;have y0:=aj y0 hb;have y1:=aj y1 hb;have y2:=aj y2 hb;have hx:=hx.mono hb;have hy:=hy.mono hb;have B0:=B0.mono hb;have B1:=B1.mono hb;have hz:=hz.mono hb;have B2:=B2.mono hb;have hA:=hA.mono hb;have B4:=B4.mono hb;have hB:=hB.mono hb;have B3:=B3.mono hb;have B6:=B6.mono hb;have B5:=B5.mono hb)
    | (go_at_call 92;(with_reducible refine (jr bx _ _ _ _ _ _ hS B5 Bi Bh hSa.out zD').mono ?_);rintro e w9 ⟨_,rfl,hQ,hb⟩;obtain⟨_,_,_,rfl,⟨_,_,_,_,rfl,_⟩,⟨_,_,_,_,rfl,_⟩,_⟩:=id hQ;have hs:=bz.step hs hb;have x0:=aj x0 hb;have x1:=aj x1 hb;have x2:=aj x2 hb;have y0:=aj y0 hb;have y1:=aj y1 hb;have y2:=aj y2 hb;have hx:=hx.mono hb;have hy:=hy.mono hb;have B0:=B0.mono hb;have B1:=B1.mono hb;have hz:=hz.mono hb;have B2:=B2.mono hb;have hA:=hA.mono hb;have B4:=B4.mono hb;have hB:=hB.mono hb;have B3:=B3.mono hb;have B6:=B6.mono hb;have B5:=B5.mono hb;have hS:=hS.mono hb;obtain⟨z0,z1,z2⟩:=hz.cells;have hf:=hz.free))
  go_wp2
  exact tr rfl rfl rfl hz (hz.noInt (by simp) (by simp) (by simp)) rfl (E1.out (by first|rfl|trivial)) hQ hs (by omega)
 have hbb':(bx == bY)=false:=by rw[beq_eq_false_iff_ne];exact hbb
 have HBB:=Lib.hid hbb
 clear hbb
 go_wp2_with fail
 refine (je9 hA hB).mono ?_
 rintro e w8 ⟨rfl,hb⟩
 have hs:=bz.step hs hb
 have x0:=aj x0 hb
 have x1:=aj x1 hb
 have x2:=aj x2 hb
 have y0:=aj y0 hb
 have y1:=aj y1 hb
 have y2:=aj y2 hb
 have hx:=hx.mono hb
 have hy:=hy.mono hb
 have B0:=B0.mono hb
 have B1:=B1.mono hb
 have hz:=hz.mono hb
 have B2:=B2.mono hb
 have hA:=hA.mono hb
 have B4:=B4.mono hb
 have hB:=hB.mono hb
 have B3:=B3.mono hb
 have B6:=B6.mono hb
 have B5:=B5.mono hb
 by_cases Bc:N2≤N1
 ·have hord:=ub Bc
  have HLE:=Lib.hid Bc
  have hq:=E2.out HBB.out Bc
  have HQQ:=Lib.hid hq
  clear hq
  go_wp2
  have hs:=bz.step hs (ak _)
  have x0:=aj x0 (ak _)
  have x1:=aj x1 (ak _)
  have x2:=aj x2 (ak _)
  have y0:=aj y0 (ak _)
  have y1:=aj y1 (ak _)
  have y2:=aj y2 (ak _)
  have hx:=hx.mono (ak _)
  have hy:=hy.mono (ak _)
  have B0:=B0.mono (ak _)
  have B1:=B1.mono (ak _)
  have hz:=hz.mono (ak _)
  have B2:=B2.mono (ak _)
  have hA:=hA.mono (ak _)
  have B4:=B4.mono (ak _)
  have hB:=hB.mono (ak _)
  have B3:=B3.mono (ak _)
  have B6:=B6.mono (ak _)
  have B5:=B5.mono (ak _)
  go_region_held3 (fun w'=>w'.cell? ⟨w.heap.size,0,none⟩=some (.bool bx))
   (first|exact x0|exact er x0 B7|go_keep)
   (first
    | (go_at_call 149;(with_reducible refine (um hA hB zA Bc hK2).mono ?_);rintro e w9 ⟨_,rfl,hS,hb⟩;obtain⟨_,_,_,_,rfl,_⟩:=id hS;have hs:=bz.step hs hb;have x0:=aj x0 hb;have x1:=aj x1 hb;have x2:=aj x2 hb;have y0:=aj y0 hb;have y1:=aj y1 hb;have y2:=aj y2 hb;have hx:=hx.mono hb;have hy:=hy.mono hb;have B0:=B0.mono hb;have B1:=B1.mono hb;have hz:=hz.mono hb;have B2:=B2.mono hb;have hA:=hA.mono hb;have B4:=B4.mono hb;have hB:=hB.mono hb;have B3:=B3.mono hb;have B6:=B6.mono hb;have B5:=B5.mono hb)
    | (go_at_call 92;(with_reducible refine (jr bx _ _ _ _ _ _ hS B5 Bi Bh hSb.out zD').mono ?_);rintro e w10 ⟨_,rfl,hQ,hb⟩;obtain⟨_,_,_,rfl,⟨_,_,_,_,rfl,_⟩,⟨_,_,_,_,rfl,_⟩,_⟩:=id hQ;have hs:=bz.step hs hb;have x0:=aj x0 hb;have x1:=aj x1 hb;have x2:=aj x2 hb;have y0:=aj y0 hb;have y1:=aj y1 hb;have y2:=aj y2 hb;have hx:=hx.mono hb;have hy:=hy.mono hb;have B0:=B0.mono hb;have B1:=B1.mono hb;have hz:=hz.mono hb;have B2:=B2.mono hb;have hA:=hA.mono hb;have B4:=B4.mono hb;have hB:=hB.mono hb;have B3:=B3.mono hb;have B6:=B6.mono hb;have B5:=B5.mono hb;have hS:=hS.mono hb;obtain⟨z0,z1,z2⟩:=hz.cells;have hf:=hz.free))
  go_wp2
  exact tr rfl rfl rfl hz (hz.noInt (by simp) (by simp) (by simp)) rfl (HQQ.out) hQ hs (by omega)
 have hord:=ws (show N1 < N2 by omega)
 have Bc:N1≤N2:=by omega
 have HLE:=Lib.hid Bc
 have hq:=E3.out HBB.out Bc
 have HQQ:=Lib.hid hq
 clear hq
 go_wp2
 have hs:=bz.step hs (ak _)
 have x0:=aj x0 (ak _)
 have x1:=aj x1 (ak _)
 have x2:=aj x2 (ak _)
 have y0:=aj y0 (ak _)
 have y1:=aj y1 (ak _)
 have y2:=aj y2 (ak _)
 have hx:=hx.mono (ak _)
 have hy:=hy.mono (ak _)
 have B0:=B0.mono (ak _)
 have B1:=B1.mono (ak _)
 have hz:=hz.mono (ak _)
 have B2:=B2.mono (ak _)
 have hA:=hA.mono (ak _)
 have B4:=B4.mono (ak _)
 have hB:=hB.mono (ak _)
 have B3:=B3.mono (ak _)
 have B6:=B6.mono (ak _)
 have B5:=B5.mono (ak _)
 go_region_held3 (fun w'=>w'.cell? ⟨w.heap.size + 1,0,none⟩=some (.bool bY))
  (first|exact y0|exact er y0 B9|go_keep)
  (first
   | (go_at_call 149;(with_reducible refine (um hB hA zB Bc hK2).mono ?_);rintro e w9 ⟨_,rfl,hS,hb⟩;obtain⟨_,_,_,_,rfl,_⟩:=id hS;have hs:=bz.step hs hb;have x0:=aj x0 hb;have x1:=aj x1 hb;have x2:=aj x2 hb;have y0:=aj y0 hb;have y1:=aj y1 hb;have y2:=aj y2 hb;have hx:=hx.mono hb;have hy:=hy.mono hb;have B0:=B0.mono hb;have B1:=B1.mono hb;have hz:=hz.mono hb;have B2:=B2.mono hb;have hA:=hA.mono hb;have B4:=B4.mono hb;have hB:=hB.mono hb;have B3:=B3.mono hb;have B6:=B6.mono hb;have B5:=B5.mono hb)
   | (go_at_call 92;(with_reducible refine (jr bY _ _ _ _ _ _ hS B5 Bi Bh hSc.out zD').mono ?_);rintro e w10 ⟨_,rfl,hQ,hb⟩;obtain⟨_,_,_,rfl,⟨_,_,_,_,rfl,_⟩,⟨_,_,_,_,rfl,_⟩,_⟩:=id hQ;have hs:=bz.step hs hb;have x0:=aj x0 hb;have x1:=aj x1 hb;have x2:=aj x2 hb;have y0:=aj y0 hb;have y1:=aj y1 hb;have y2:=aj y2 hb;have hx:=hx.mono hb;have hy:=hy.mono hb;have B0:=B0.mono hb;have B1:=B1.mono hb;have hz:=hz.mono hb;have B2:=B2.mono hb;have hA:=hA.mono hb;have B4:=B4.mono hb;have hB:=hB.mono hb;have B3:=B3.mono hb;have B6:=B6.mono hb;have B5:=B5.mono hb;have hS:=hS.mono hb;obtain⟨z0,z1,z2⟩:=hz.cells;have hf:=hz.free))
 go_wp2
 exact tr rfl rfl rfl hz (hz.noInt (by simp) (by simp) (by simp)) rfl (HQQ.out) hQ hs (by omega)
theorem r_Mul_calls (vx vy:Value) (x y:Rat) (K:Nat) (w:World) (hx:RV w vx x) (hy:RV w vy y) (hK:K≤134217728) (sx:SzQ K x) (sy:SzQ K y):
  Calls Tryz.prog 97 #[vx,vy] w (rx w (x * y)):=by
 obtain⟨xn,xd,xe,rfl,B0,Bj,hxe⟩:=id hx
 obtain⟨yn,yd,ye,rfl,B1,Bk,hye⟩:=id hy
 obtain⟨a1,n1,c1,l1,rfl,_⟩:=id B0
 obtain⟨a2,n2,c2,l2,rfl,_⟩:=id Bj
 obtain⟨a3,n3,c3,l3,rfl,_⟩:=id B1
 obtain⟨a4,n4,c4,l4,rfl,_⟩:=id Bk
 clear Bj hxe Bk hye
 have Bl:=sx.1
 have Bf:=sx.2
 have Bm:=sy.1
 have Bg:=sy.2
 have Bi:x.den * y.den≠0:=Nat.mul_ne_zero x.den_nz y.den_nz
 have zA:x.num.natAbs * y.num.natAbs < 4294967296 ^ (K + K):=ig Bl Bm
 have zD:x.den * y.den < 4294967296 ^ (K + K):=ig Bf Bg
 have B8:K≤1099511627776:=by omega
 have Bh:K + K≤536870912:=by omega
 have e1:=mul_mk x y
 generalize hN1:x.num.natAbs * y.num.natAbs=N1 at *
 generalize hN3:x.den * y.den=N3 at *
 generalize x * y=xy at *
 generalize hsx:ng x=bx at *
 generalize hsy:ng y=bY at *
 have E1:=Lib.hid e1
 have HN1:=Lib.hid hN1
 have HN3:=Lib.hid hN3
 clear e1 hN1 hN3 hsx hsy
 go_enter Tryz.func97,Tryz.ntmps97
 go_wp2_with fail
 generalize hw0:((w.alloc (.cells #[.bool bx,.slice a1 n1 c1,.slice a2 n2 c2] 53)).alloc (.cells #[.bool bY,.slice a3 n3 c3,.slice a4 n4 c4] 53)).alloc (.cells #[.bool false,.slice none 0 0,.slice none 0 0] 53)=w0
 have hs:bz w w0:=by rw[←hw0];exact (((Below.refl _ _).alloc (Nat.le_refl _) _).alloc (by simp) _).alloc (by simp;omega) _
 have hbx:df w0 w.heap.size (.bool bx) (.slice a1 n1 c1) (.slice a2 n2 c2):=by rw[←hw0];exact ((df.new w _ _ _ _).alloc _).alloc _
 have hby:df w0 (w.heap.size + 1) (.bool bY) (.slice a3 n3 c3) (.slice a4 n4 c4):=by rw[←hw0];exact (df.new' _ _ _ _ _ _ (by simp)).alloc _
 have hz:df w0 (w.heap.size + 1 + 1) (.bool false) (.slice none 0 0) (.slice none 0 0):=by rw[←hw0];exact df.new' _ _ _ _ _ _ (by simp)
 have hx:=hs.rv hx
 have hy:=hs.rv hy
 have B0:=hs.nv B0
 have B1:=hs.nv B1
 clear hw0
 have B7:w.heap.size≠w.heap.size + 1 + 1:=by omega
 have B9:w.heap.size + 1≠w.heap.size + 1 + 1:=by omega
 obtain⟨x0,x1,x2⟩:=hbx.cells
 obtain⟨y0,y1,y2⟩:=hby.cells
 have hs:=bz.step hs (ak _)
 have x0:=aj x0 (ak _)
 have x1:=aj x1 (ak _)
 have x2:=aj x2 (ak _)
 have y0:=aj y0 (ak _)
 have y1:=aj y1 (ak _)
 have y2:=aj y2 (ak _)
 have hx:=hx.mono (ak _)
 have hy:=hy.mono (ak _)
 have B0:=B0.mono (ak _)
 have B1:=B1.mono (ak _)
 have hz:=hz.mono (ak _)
 go_region_held3 (fun w'=>w'.cell? ⟨w.heap.size,0,none⟩=some (.bool bx)∧w'.cell? ⟨w.heap.size,1,none⟩=some (.slice a1 n1 c1)∧w'.cell? ⟨w.heap.size,2,none⟩=some (.slice a2 n2 c2)∧w'.cell? ⟨w.heap.size + 1,0,none⟩=some (.bool bY)∧w'.cell? ⟨w.heap.size + 1,1,none⟩=some (.slice a3 n3 c3)∧w'.cell? ⟨w.heap.size + 1,2,none⟩=some (.slice a4 n4 c4))
  (first|exact⟨x0,x1,x2,y0,y1,y2⟩|exact⟨er x0 B7,er x1 B7,er x2 B7,er y0 B9,er y1 B9,er y2 B9⟩|go_keep)
  (first
   | (go_at_call 126;(with_reducible refine (jx B0 B1 Bl Bm B8 B8).mono ?_);rintro e w1 ⟨_,rfl,hA,hb⟩;obtain⟨_,_,_,_,rfl,_⟩:=id hA;have hs:=bz.step hs hb;have x0:=aj x0 hb;have x1:=aj x1 hb;have x2:=aj x2 hb;have y0:=aj y0 hb;have y1:=aj y1 hb;have y2:=aj y2 hb;have hx:=hx.mono hb;have hy:=hy.mono hb;have B0:=B0.mono hb;have B1:=B1.mono hb;have hz:=hz.mono hb;rw[HN1.out] at hA)
   | (go_at_call 90;(with_reducible refine (dl _ x _ hx).mono ?_);rintro e w2 ⟨_,rfl,B3,hb⟩;obtain⟨_,_,_,_,rfl,_⟩:=id B3;have hs:=bz.step hs hb;have x0:=aj x0 hb;have x1:=aj x1 hb;have x2:=aj x2 hb;have y0:=aj y0 hb;have y1:=aj y1 hb;have y2:=aj y2 hb;have hx:=hx.mono hb;have hy:=hy.mono hb;have B0:=B0.mono hb;have B1:=B1.mono hb;have hz:=hz.mono hb;have hA:=hA.mono hb)
   | (go_at_call 90;(with_reducible refine (dl _ y _ hy).mono ?_);rintro e w3 ⟨_,rfl,B6,hb⟩;obtain⟨_,_,_,_,rfl,_⟩:=id B6;have hs:=bz.step hs hb;have x0:=aj x0 hb;have x1:=aj x1 hb;have x2:=aj x2 hb;have y0:=aj y0 hb;have y1:=aj y1 hb;have y2:=aj y2 hb;have hx:=hx.mono hb;have hy:=hy.mono hb;have B0:=B0.mono hb;have B1:=B1.mono hb;have hz:=hz.mono hb;have hA:=hA.mono hb;have B3:=B3.mono hb)
   | (go_at_call 126;(with_reducible refine (jx B3 B6 Bf Bg B8 B8).mono ?_);rintro e w4 ⟨_,rfl,B5,hb⟩;obtain⟨_,_,_,_,rfl,_⟩:=id B5;have hs:=bz.step hs hb;have x0:=aj x0 hb;have x1:=aj x1 hb;have x2:=aj x2 hb;have y0:=aj y0 hb;have y1:=aj y1 hb;have y2:=aj y2 hb;have hx:=hx.mono hb;have hy:=hy.mono hb;have B0:=B0.mono hb;have B1:=B1.mono hb;have hz:=hz.mono hb;have hA:=hA.mono hb;have B3:=B3.mono hb;have B6:=B6.mono hb;rw[HN3.out] at B5)
   | (go_at_call 92;(with_reducible refine (jr _ _ _ _ _ _ _ hA B5 Bi Bh zA zD).mono ?_);rintro e w5 ⟨_,rfl,hQ,hb⟩;obtain⟨_,_,_,rfl,⟨_,_,_,_,rfl,_⟩,⟨_,_,_,_,rfl,_⟩,_⟩:=id hQ;have hs:=bz.step hs hb;have x0:=aj x0 hb;have x1:=aj x1 hb;have x2:=aj x2 hb;have y0:=aj y0 hb;have y1:=aj y1 hb;have y2:=aj y2 hb;have hx:=hx.mono hb;have hy:=hy.mono hb;have B0:=B0.mono hb;have B1:=B1.mono hb;have hz:=hz.mono hb;have hA:=hA.mono hb;have B3:=B3.mono hb;have B6:=B6.mono hb;have B5:=B5.mono hb;obtain⟨z0,z1,z2⟩:=hz.cells;have hf:=hz.free))
 go_wp2
 exact tr rfl rfl rfl hz (hz.noInt (by simp) (by simp) (by simp)) rfl (E1.out.trans (by cases bx<;>cases bY<;>rfl)) hQ hs (by omega)
end Go.Proofs.YtbnomdlojmgigaaGreat
namespace Go.Proofs.YtbnomdlojmgigaaGreat
open Go.RowKit Dg
attribute [local go_sem ↓] Go.wp_at_zero Go.wp_at_succ
def sgQ (q:Rat):Int:=if q.num < 0 then -1 else if q.num=0 then 0 else 1
theorem ko (vx:Value) (x:Rat) (w:World) (hx:RV w vx x):
  Calls Tryz.prog 113 #[vx] w (RetI w (.bool (decide (x=0)))):=by
 obtain⟨xn,xd,xe,rfl,B0,B1,B3⟩:=id hx
 obtain⟨a1,n1,c1,l1,rfl,_⟩:=id B0
 obtain⟨a2,n2,c2,l2,rfl,_⟩:=id B1
 clear B3
 obtain⟨ao,n,c,l,e,B5,hcl,hvl⟩:=id B0
 cases e
 have hb:n1≤9223372036854775807:=by have:=B5.cap;have:=B5.max;omega
 have B4:decide (x=0)=((n1:Int) == 0):=by
  rw[Bool.eq_iff_iff,decide_eq_true_eq,beq_iff_eq,←jd,←hvl]
  have:=hcl.length_pos_iff (by omega)
  rw[B5.len] at this
  omega
 rw[B4]
 clear B4 B5 hcl hvl B0 B1 hx
 go_enter Tryz.func113,Tryz.ntmps113
 go_wp2
 go_ret
 exact⟨rfl,(Below.refl _ _).alloc (Nat.le_refl _) _⟩
theorem r_Sign_calls (vx:Value) (x:Rat) (w:World) (hx:RV w vx x):
  Calls Tryz.prog 76 #[vx] w (RetI w (.int .i64 (sgQ x))):=by
 obtain⟨xn,xd,xe,rfl,B0,B1,B3⟩:=id hx
 obtain⟨a1,n1,c1,l1,rfl,_⟩:=id B0
 obtain⟨a2,n2,c2,l2,rfl,_⟩:=id B1
 clear B3
 have B7:sgQ x=if decide (x=0) then 0 else if ng x then -1 else 1:=by
  unfold sgQ ng
  by_cases h0:x=0
  ·subst h0;decide
  have hn0:x.num≠0:=fun h=>h0 (Rat.num_eq_zero.1 h)
  by_cases hneg:x.num < 0<;>simp[h0,hn0,hneg]
 generalize B4:decide (x=0)=z at *
 generalize hsx:ng x=bx at *
 have HZ0:=Lib.hid B4
 clear B4 hsx
 rw[B7]
 clear B7
 cases z
 ·cases bx
  ·go_enter Tryz.func76,Tryz.ntmps76
   go_wp2_with fail
   generalize hw0:(w.alloc (.cells #[.bool false,.slice a1 n1 c1,.slice a2 n2 c2] 53))=w0
   have hs:bz w w0:=by rw[←hw0];exact ((Below.refl _ _).alloc (by first|exact Nat.le_refl _|(simp;done)|(simp;omega)) _)
   have B2:df w0 (w.heap.size) (.bool false) (.slice a1 n1 c1) (.slice a2 n2 c2):=by rw[←hw0];exact df.new' _ _ _ _ _ _ (by first|rfl|(simp;done))
   have hx:=hs.rv hx
   have B0:=hs.nv B0
   have B1:=hs.nv B1
   clear hw0
   obtain⟨x0,x1,x2⟩:=B2.cells
   refine (ko _ _ _ hx).mono ?_
   rintro e w1 ⟨rfl,hb⟩
   have hs:=bz.step hs hb
   have x0:=aj x0 hb
   have x1:=aj x1 hb
   have x2:=aj x2 hb
   have hx:=hx.mono hb
   have B0:=B0.mono hb
   have B1:=B1.mono hb
   rw[HZ0.out]
   go_wp2
   go_ret
   exact⟨rfl,hs⟩
  go_enter Tryz.func76,Tryz.ntmps76
  go_wp2_with fail
  generalize hw0:(w.alloc (.cells #[.bool true,.slice a1 n1 c1,.slice a2 n2 c2] 53))=w0
  have hs:bz w w0:=by rw[←hw0];exact ((Below.refl _ _).alloc (by first|exact Nat.le_refl _|(simp;done)|(simp;omega)) _)
  have B2:df w0 (w.heap.size) (.bool true) (.slice a1 n1 c1) (.slice a2 n2 c2):=by rw[←hw0];exact df.new' _ _ _ _ _ _ (by first|rfl|(simp;done))
  have hx:=hs.rv hx
  have B0:=hs.nv B0
  have B1:=hs.nv B1
  clear hw0
  obtain⟨x0,x1,x2⟩:=B2.cells
  refine (ko _ _ _ hx).mono ?_
  rintro e w1 ⟨rfl,hb⟩
  have hs:=bz.step hs hb
  have x0:=aj x0 hb
  have x1:=aj x1 hb
  have x2:=aj x2 hb
  have hx:=hx.mono hb
  have B0:=B0.mono hb
  have B1:=B1.mono hb
  rw[HZ0.out]
  go_wp2
  go_ret
  exact⟨rfl,hs⟩
 go_enter Tryz.func76,Tryz.ntmps76
 go_wp2_with fail
 generalize hw0:(w.alloc (.cells #[.bool bx,.slice a1 n1 c1,.slice a2 n2 c2] 53))=w0
 have hs:bz w w0:=by rw[←hw0];exact ((Below.refl _ _).alloc (by first|exact Nat.le_refl _|(simp;done)|(simp;omega)) _)
 have B2:df w0 (w.heap.size) (.bool bx) (.slice a1 n1 c1) (.slice a2 n2 c2):=by rw[←hw0];exact df.new' _ _ _ _ _ _ (by first|rfl|(simp;done))
 have hx:=hs.rv hx
 have B0:=hs.nv B0
 have B1:=hs.nv B1
 clear hw0
 obtain⟨x0,x1,x2⟩:=B2.cells
 refine (ko _ _ _ hx).mono ?_
 rintro e w1 ⟨rfl,hb⟩
 have hs:=bz.step hs hb
 have x0:=aj x0 hb
 have x1:=aj x1 hb
 have x2:=aj x2 hb
 have hx:=hx.mono hb
 have B0:=B0.mono hb
 have B1:=B1.mono hb
 rw[HZ0.out]
 go_wp2
 go_ret
 exact⟨rfl,hs⟩
theorem RV.parts {w:World} {s:Bool} {v1 v2:Value} {q:Rat} (h:RV w (.agg #[.bool s,v1,v2]) q):∃d,s=ng q∧ck .u32 4294967296 w v1 q.num.natAbs∧ck .u32 4294967296 w v2 d∧(d=q.den∨d=0∧q.den=1):=by
 obtain⟨vn,vd,d,e,h1,h2,hd⟩:=h
 simp only[Value.agg.injEq,Array.mk.injEq,List.cons.injEq,Value.bool.injEq] at e
 obtain⟨rfl,rfl,rfl,_⟩:=e
 exact⟨d,rfl,h1,h2,hd⟩
theorem RV.neg {w:World} {b s:Bool} {v1 v2:Value} {q:Rat} (h:RV w (.agg #[.bool b,v1,v2]) q) (hs:s=(!b && decide (q≠0))):RV w (.agg #[.bool s,v1,v2]) (-q):=by
 obtain⟨d,rfl,h1,h2,hd⟩:=h.parts
 subst hs
 rw[←ng_neg]
 exact⟨v1,v2,d,rfl,by rw[Rat.neg_num,Int.natAbs_neg];exact h1,h2,by rw[Rat.neg_den];exact hd⟩
def up (q:Rat):Rat:=if ng q then -q else q
theorem RV.abs {w:World} {b:Bool} {v1 v2:Value} {q:Rat} (h:RV w (.agg #[.bool b,v1,v2]) q):RV w (.agg #[.bool false,v1,v2]) (up q):=by
 unfold up
 by_cases hn:ng q=true
 ·rw[if_pos hn]
  exact h.neg (by obtain⟨_,e,_⟩:=h.parts;rw[e,hn];rfl)
 rw[if_neg hn]
 obtain⟨_,e,_⟩:=h.parts
 rw[Bool.not_eq_true] at hn
 rw[e,hn] at h
 exact h
theorem r_Neg_calls (vx:Value) (x:Rat) (w:World) (hx:RV w vx x):
  Calls Tryz.prog 128 #[vx] w (rx w (-x)):=by
 obtain⟨xn,xd,xe,rfl,B0,B1,B3⟩:=id hx
 obtain⟨a1,n1,c1,l1,rfl,_⟩:=id B0
 obtain⟨a2,n2,c2,l2,rfl,_⟩:=id B1
 clear B3
 generalize hsx:ng x=bx at *
 clear hsx
 cases bx
 ·go_enter Tryz.func128,Tryz.ntmps128
  go_wp2_with fail
  generalize hw0:((w.alloc (.cells #[.bool false,.slice a1 n1 c1,.slice a2 n2 c2] 53)).alloc (.cells #[.bool false,.slice none 0 0,.slice none 0 0] 53))=w0
  have hs:bz w w0:=by rw[←hw0];exact (((Below.refl _ _).alloc (by first|exact Nat.le_refl _|(simp;done)|(simp;omega)) _).alloc (by first|exact Nat.le_refl _|(simp;done)|(simp;omega)) _)
  have B2:df w0 (w.heap.size) (.bool false) (.slice a1 n1 c1) (.slice a2 n2 c2):=by rw[←hw0];exact (df.new' _ _ _ _ _ _ (by first|rfl|(simp;done))).alloc _
  have hz:df w0 (w.heap.size + 1) (.bool false) (.slice none 0 0) (.slice none 0 0):=by rw[←hw0];exact df.new' _ _ _ _ _ _ (by first|rfl|(simp;done))
  have hx:=hs.rv hx
  have B0:=hs.nv B0
  have B1:=hs.nv B1
  clear hw0
  obtain⟨x0,x1,x2⟩:=B2.cells
  have B6:w.heap.size≠w.heap.size + 1:=by omega
  have hs:=bz.step hs (ak _)
  have x0:=aj x0 (ak _)
  have x1:=aj x1 (ak _)
  have x2:=aj x2 (ak _)
  have hx:=hx.mono (ak _)
  have B0:=B0.mono (ak _)
  have B1:=B1.mono (ak _)
  have hz:=hz.mono (ak _)
  obtain⟨z0,z1,z2⟩:=hz.cells
  have hf:=hz.free
  go_region_held3 (fun w'=>w'.cell? ⟨w.heap.size,0,none⟩=some (.bool false)∧w'.cell? ⟨w.heap.size,1,none⟩=some (.slice a1 n1 c1)∧w'.cell? ⟨w.heap.size,2,none⟩=some (.slice a2 n2 c2))
   (first|exact⟨x0,x1,x2⟩|exact⟨er x0 B6,er x1 B6,er x2 B6⟩|go_keep)
   (first
    | (go_at_call 113;(with_reducible refine (ko _ _ _ hx).mono ?_);rintro e w1 ⟨rfl,hb⟩;have hs:=bz.step hs hb;have x0:=aj x0 hb;have x1:=aj x1 hb;have x2:=aj x2 hb;have hx:=hx.mono hb;have B0:=B0.mono hb;have B1:=B1.mono hb;have hz:=hz.mono hb;obtain⟨z0,z1,z2⟩:=hz.cells;have hf:=hz.free))
  go_wp2
  have hQ:=hx.neg (s:=!decide (x=0)) (by simp)
  exact tr rfl rfl rfl hz (hz.noInt (by simp) (by simp) (by simp)) rfl (rfl) hQ hs (by omega)
 go_enter Tryz.func128,Tryz.ntmps128
 go_wp2_with fail
 generalize hw0:((w.alloc (.cells #[.bool true,.slice a1 n1 c1,.slice a2 n2 c2] 53)).alloc (.cells #[.bool false,.slice none 0 0,.slice none 0 0] 53))=w0
 have hs:bz w w0:=by rw[←hw0];exact (((Below.refl _ _).alloc (by first|exact Nat.le_refl _|(simp;done)|(simp;omega)) _).alloc (by first|exact Nat.le_refl _|(simp;done)|(simp;omega)) _)
 have B2:df w0 (w.heap.size) (.bool true) (.slice a1 n1 c1) (.slice a2 n2 c2):=by rw[←hw0];exact (df.new' _ _ _ _ _ _ (by first|rfl|(simp;done))).alloc _
 have hz:df w0 (w.heap.size + 1) (.bool false) (.slice none 0 0) (.slice none 0 0):=by rw[←hw0];exact df.new' _ _ _ _ _ _ (by first|rfl|(simp;done))
 have hx:=hs.rv hx
 have B0:=hs.nv B0
 have B1:=hs.nv B1
 clear hw0
 obtain⟨x0,x1,x2⟩:=B2.cells
 have B6:w.heap.size≠w.heap.size + 1:=by omega
 obtain⟨z0,z1,z2⟩:=hz.cells
 have hf:=hz.free
 go_still_tail 13,(by kernel_rfl)
 change wpList _ _ _ _ _ (World.drew _)
 go_wp2
 have hs:=bz.step hs (ak _)
 have x0:=aj x0 (ak _)
 have x1:=aj x1 (ak _)
 have x2:=aj x2 (ak _)
 have hx:=hx.mono (ak _)
 have B0:=B0.mono (ak _)
 have B1:=B1.mono (ak _)
 have hz:=hz.mono (ak _)
 go_wp2
 have hQ:=hx.neg (s:=false) rfl
 exact tr rfl rfl rfl hz (hz.noInt (by simp) (by simp) (by simp)) rfl (rfl) hQ hs (by omega)
end Go.Proofs.YtbnomdlojmgigaaGreat
