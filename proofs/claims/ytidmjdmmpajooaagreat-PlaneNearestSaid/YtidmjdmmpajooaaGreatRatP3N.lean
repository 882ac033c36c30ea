/-
  The contracts of the program's fractions, third part: Add, Sub, Same, Cmp, Text.
-/
import Derived.Test.YtidmjdmmpajooaaGreatRatP2N
import Derived.BigQuiet
set_option linter.unusedSimpArgs false
set_option linter.unusedVariables false
set_option maxRecDepth 100000
set_option maxHeartbeats 4000000
namespace Go.Proofs.YtidmjdmmpajooaaGreat
open Go.RowKit Dg
attribute [local go_sem ↓] Go.wp_at_zero Go.wp_at_succ
theorem zj (vx vy:Value) (x y:Rat) (K:Nat) (w:World) (hx:PV w vx x) (hy:PV w vy y) (hK:K≤268435456) (sx:SzP K x) (sy:SzP K y):Calls Tryz.prog 15 #[vx,vy] w (mp w (x + y)):=by
 obtain⟨gx,ax,nx,cx,Ax,Nx,Cx,rfl⟩:=hx.shape
 have Bq:=hx.sign
 have EGx:=ae Bq
 have B7:=hx.parts.2.1
 have B6:=hx.parts.2.2
 obtain⟨gy,ay,ny,cy,Ay,Ny,Cy,rfl⟩:=hy.shape
 have Br:=hy.sign
 have EGy:=ae Br
 have B9:=hy.parts.2.1
 have B8:=hy.parts.2.2
 have sx1:=sx.1
 have C0:=sx.2
 have sy1:=sy.1
 have C1:=sy.2
 have hdx:=x.den_pos
 have hdy:=y.den_pos
 have hd0:0 < x.den * y.den:=Nat.mul_pos hdx hdy
 have zA:x.num.natAbs * y.den < 18446744073709551616 ^ (K + K):=ji sx1 C1
 have zB:y.num.natAbs * x.den < 18446744073709551616 ^ (K + K):=ji sy1 C0
 have zD:x.den * y.den < 18446744073709551616 ^ (K + K):=ji C0 C1
 have zS:=pow_add_ltP zA zB
 have hp:18446744073709551616 ^ (K + K)≤18446744073709551616 ^ (K + K + 1):=Nat.pow_le_pow_right (by omega) (by omega)
 have zD':=Nat.lt_of_lt_of_le zD hp
 have Bs:K≤1099511627776:=by omega
 have hK2:K + K≤1099511627776:=by omega
 have hK3:K + K + 1≤1099511627774:=by omega
 have e1:=jb6 x y
 have e2:=uz x y
 have e3:=xu x y
 rw[←Bq,←Br] at e1 e2 e3
 generalize hN1:x.num.natAbs * y.den=N1 at *
 generalize hN2:y.num.natAbs * x.den=N2 at *
 generalize hN3:x.den * y.den=N3 at *
 have zS1:N1 - N2 < 18446744073709551616 ^ (K + K + 1):=Nat.lt_of_le_of_lt (Nat.sub_le _ _) (Nat.lt_of_lt_of_le zA hp)
 have zS2:N2 - N1 < 18446744073709551616 ^ (K + K + 1):=Nat.lt_of_le_of_lt (Nat.sub_le _ _) (Nat.lt_of_lt_of_le zB hp)
 generalize x + y=xy at *
 have E1:=ae e1
 have E2:=ae e2
 have E3:=ae e3
 have HN1:=ae hN1
 have HN2:=ae hN2
 have HN3:=ae hN3
 have ZS:=ae zS
 have ZS1:=ae zS1
 have ZS2:=ae zS2
 clear e1 e2 e3 hN1 hN2 hN3 hp zS zS1 zS2 zD
 clear Bq
 clear Br
 have hs:=Below.refl w.heap.size w
 go_enter Tryz.func15,Tryz.ntmps15
 go_wp2_with fail
 clear hx hy
 refine Code.abs ?_
 intro w1 hW
 have Bh:=hs.size
 have Bg:Below w.heap.size w w1:=by rw[hW];exact (Below.alloc (Below.alloc (Below.alloc hs (by first|exact hs.size|(have:=hs.size;simp;done)|(have:=hs.size;simp;omega)) _) (by first|exact hs.size|(have:=hs.size;simp;done)|(have:=hs.size;simp;omega)) _) (by first|exact hs.size|(have:=hs.size;simp;done)|(have:=hs.size;simp;omega)) _)
 have hk:aw w w1:=by rw[hW];exact ((((aw.refl _).alloc _).alloc _).alloc _)
 have Bd:Bx w1 (w.heap.size) 37 #[.bool gx,.slice ax nx cx,.slice Ax Nx Cx]:=by rw[hW];exact (((Bx.new' _ _ _ _ (by first|rfl|(simp;done))).alloc _).alloc _)
 have Be:Bx w1 (w.heap.size + 1) 37 #[.bool gy,.slice ay ny cy,.slice Ay Ny Cy]:=by rw[hW];exact ((Bx.new' _ _ _ _ (by first|rfl|(simp;done))).alloc _)
 have Bf:Bx w1 (w.heap.size + 1 + 1) 37 #[.bool false,.slice none 0 0,.slice none 0 0]:=by rw[hW];exact (Bx.new' _ _ _ _ (by first|rfl|(simp;done)))
 replace hs:=Bg
 clear Bg
 have B1:=Bd
 clear Bd
 have B2:=Be
 clear Be
 have B0:=Bf
 clear Bf
 revert B6 B9 B8;revert B7;refine ke hk ?_;intro B7 B6 B9 B8
 clear hW hk Bh
 have C2:=B0.lt
 have hb:=de w1
 revert B1 B2 B0 B7 B6 B9 B8;refine mS hs hb ?_;clear hs hb;intro hs B1 B2 B0 B7 B6 B9 B8
 refine B1.k3 fun B3 B4 B5=>?_
 refine B2.k3 fun Ba Bb Bc=>?_
 go_region_held3 (fun w'=>w'.cell? ⟨w.heap.size,0,none⟩=some (.bool gx)∧w'.cell? ⟨w.heap.size,1,none⟩=some (.slice ax nx cx)∧w'.cell? ⟨w.heap.size,2,none⟩=some (.slice Ax Nx Cx)∧w'.cell? ⟨w.heap.size + 1,0,none⟩=some (.bool gy)∧w'.cell? ⟨w.heap.size + 1,1,none⟩=some (.slice ay ny cy)∧w'.cell? ⟨w.heap.size + 1,2,none⟩=some (.slice Ay Ny Cy))
  (first|exact⟨B3,B4,B5,Ba,Bb,Bc⟩|go_keep)
  (first
   | (go_at_call 48;(with_reducible refine (gz _ _ _ hdx B6).mono ?_);rintro e w2 ⟨_,rfl,hd,hb⟩;obtain⟨ahd,nhd,chd,rfl⟩:=hd.shape;replace hs:=ar hs hb;replace B1:=B1.mono hb;replace B2:=B2.mono hb;replace B0:=B0.mono hb;replace B7:=B7.mono hb;replace B6:=B6.mono hb;replace B9:=B9.mono hb;replace B8:=B8.mono hb;replace B3:=ah B3 hb;replace B4:=ah B4 hb;replace B5:=ah B5 hb;replace Ba:=ah Ba hb;replace Bb:=ah Bb hb;replace Bc:=ah Bc hb;clear hb)
   | (go_at_call 48;(with_reducible refine (gz _ _ _ hdy B8).mono ?_);rintro e w3 ⟨_,rfl,he,hb⟩;obtain⟨ahe,nhe,che,rfl⟩:=he.shape;replace hs:=ar hs hb;replace B1:=B1.mono hb;replace B2:=B2.mono hb;replace B0:=B0.mono hb;replace B7:=B7.mono hb;replace B6:=B6.mono hb;replace B9:=B9.mono hb;replace B8:=B8.mono hb;replace hd:=hd.mono hb;replace B3:=ah B3 hb;replace B4:=ah B4 hb;replace B5:=ah B5 hb;replace Ba:=ah Ba hb;replace Bb:=ah Bb hb;replace Bc:=ah Bc hb;clear hb))
 clear B3 B4 B5 Ba Bb Bc
 go_wp2
 refine Code.abs ?_
 intro w4 hW
 have Bh:=hs.size
 have lx:=B1.lt
 have ly:=B2.lt
 have lz:=B0.lt
 have Bg:Below w.heap.size w w4:=by rw[hW];exact hs
 have hk:aw w3 w4:=by rw[hW];exact (aw.refl _)
 have Bd:Bx w4 (w.heap.size) 37 #[.bool gx,.slice ax nx cx,.slice Ax Nx Cx]:=by rw[hW];exact B1
 have Be:Bx w4 (w.heap.size + 1) 37 #[.bool gy,.slice ay ny cy,.slice Ay Ny Cy]:=by rw[hW];exact B2
 have Bf:Bx w4 (w.heap.size + 1 + 1) 37 #[.bool false,.slice none 0 0,.slice none 0 0]:=by rw[hW];exact B0
 replace hs:=Bg
 clear Bg
 replace B1:=Bd
 clear Bd
 replace B2:=Be
 clear Be
 replace B0:=Bf
 clear Bf
 revert B7 B6 B9 B8;revert he;revert hd;refine ke hk ?_;intro hd he B7 B6 B9 B8
 clear hW hk Bh lx ly lz
 have hb:=de w4
 revert B1 B2 B0 hd he B7 B6 B9 B8;refine mS hs hb ?_;clear hs hb;intro hs B1 B2 B0 hd he B7 B6 B9 B8
 refine B1.k3 fun B3 B4 B5=>?_
 refine B2.k3 fun Ba Bb Bc=>?_
 go_region_held3 (fun w'=>w'.cell? ⟨w.heap.size,0,none⟩=some (.bool gx)∧w'.cell? ⟨w.heap.size,1,none⟩=some (.slice ax nx cx)∧w'.cell? ⟨w.heap.size,2,none⟩=some (.slice Ax Nx Cx)∧w'.cell? ⟨w.heap.size + 1,0,none⟩=some (.bool gy)∧w'.cell? ⟨w.heap.size + 1,1,none⟩=some (.slice ay ny cy)∧w'.cell? ⟨w.heap.size + 1,2,none⟩=some (.slice Ay Ny Cy))
  (first|exact⟨B3,B4,B5,Ba,Bb,Bc⟩|go_keep)
  (first
   | (go_at_call 47;(with_reducible refine (kj B7 he sx1 C1 Bs Bs).mono ?_);rintro e w5 ⟨_,rfl,hA,hb⟩;obtain⟨ahA,nhA,chA,rfl⟩:=hA.shape;replace hs:=ar hs hb;replace B1:=B1.mono hb;replace B2:=B2.mono hb;replace B0:=B0.mono hb;replace B7:=B7.mono hb;replace B6:=B6.mono hb;replace B9:=B9.mono hb;replace B8:=B8.mono hb;replace hd:=hd.mono hb;replace he:=he.mono hb;replace B3:=ah B3 hb;replace B4:=ah B4 hb;replace B5:=ah B5 hb;replace Ba:=ah Ba hb;replace Bb:=ah Bb hb;replace Bc:=ah Bc hb;clear hb;rw[HN1.out] at hA)
   | (go_at_call 47;(with_reducible refine (kj B9 hd sy1 C0 Bs Bs).mono ?_);rintro e w6 ⟨_,rfl,hB,hb⟩;obtain⟨ahB,nhB,chB,rfl⟩:=hB.shape;replace hs:=ar hs hb;replace B1:=B1.mono hb;replace B2:=B2.mono hb;replace B0:=B0.mono hb;replace B7:=B7.mono hb;replace B6:=B6.mono hb;replace B9:=B9.mono hb;replace B8:=B8.mono hb;replace hd:=hd.mono hb;replace he:=he.mono hb;replace hA:=hA.mono hb;replace B3:=ah B3 hb;replace B4:=ah B4 hb;replace B5:=ah B5 hb;replace Ba:=ah Ba hb;replace Bb:=ah Bb hb;replace Bc:=ah Bc hb;clear hb;rw[HN2.out] at hB))
 clear B3 B4 B5 Ba Bb Bc
 go_wp2_with fail
 refine (kj hd he C0 C1 Bs Bs).mono ?_
 rintro e w7 ⟨_,rfl,hD,hb⟩
 obtain⟨ahD,nhD,chD,rfl⟩:=hD.shape
 revert B8;revert B9;revert B6;revert B7;revert he;revert hd;revert B0;revert B2;revert B1;revert hB;revert hA;refine mS hs hb ?_;clear hs hb;intro hs hA hB B1 B2 B0 hd he B7 B6 B9 B8
 rw[HN3.out] at hD
 by_cases hgg:gx=gy
 ·subst hgg
  refine B1.k3 fun B3 B4 B5=>?_
  refine B2.k3 fun Ba Bb Bc=>?_
  go_wp2
  clear B3 B4 B5 Ba Bb Bc
  refine Code.abs ?_
  intro w8 hW
  have Bh:=hs.size
  have lx:=B1.lt
  have ly:=B2.lt
  have lz:=B0.lt
  have Bg:Below w.heap.size w w8:=by rw[hW];exact hs
  have hk:aw w7 w8:=by rw[hW];exact (aw.refl _)
  have Bd:Bx w8 (w.heap.size) 37 #[.bool gx,.slice ax nx cx,.slice Ax Nx Cx]:=by rw[hW];exact B1
  have Be:Bx w8 (w.heap.size + 1) 37 #[.bool gx,.slice ay ny cy,.slice Ay Ny Cy]:=by rw[hW];exact B2
  have Bf:Bx w8 (w.heap.size + 1 + 1) 37 #[.bool false,.slice none 0 0,.slice none 0 0]:=by rw[hW];exact B0
  replace hs:=Bg
  clear Bg
  replace B1:=Bd
  clear Bd
  replace B2:=Be
  clear Be
  replace B0:=Bf
  clear Bf
  revert B8;revert B9;revert B6;revert B7;revert he;revert hd;revert hB;revert hA;revert hD;refine ke hk ?_;intro hD hA hB hd he B7 B6 B9 B8
  clear hW hk Bh lx ly lz
  have hb:=de w8
  revert B1 B2 B0 hD hA hB hd he B7 B6 B9 B8;refine mS hs hb ?_;clear hs hb;intro hs B1 B2 B0 hD hA hB hd he B7 B6 B9 B8
  refine B1.k3 fun B3 B4 B5=>?_
  go_region_held3 (fun w'=>w'.cell? ⟨w.heap.size,0,none⟩=some (.bool gx)∧w'.cell? ⟨w.heap.size,1,none⟩=some (.slice ax nx cx)∧w'.cell? ⟨w.heap.size,2,none⟩=some (.slice Ax Nx Cx))
   (first|exact⟨B3,B4,B5⟩|exact⟨bh (bh (bh (B3) (by first|omega|(have:=hs.size;simp;done)|(have:=hs.size;simp;omega))) (by first|omega|(have:=hs.size;simp;done)|(have:=hs.size;simp;omega))) (by first|omega|(have:=hs.size;simp;done)|(have:=hs.size;simp;omega)),bh (bh (bh (B4) (by first|omega|(have:=hs.size;simp;done)|(have:=hs.size;simp;omega))) (by first|omega|(have:=hs.size;simp;done)|(have:=hs.size;simp;omega))) (by first|omega|(have:=hs.size;simp;done)|(have:=hs.size;simp;omega)),bh (bh (bh (B5) (by first|omega|(have:=hs.size;simp;done)|(have:=hs.size;simp;omega))) (by first|omega|(have:=hs.size;simp;done)|(have:=hs.size;simp;omega))) (by first|omega|(have:=hs.size;simp;done)|(have:=hs.size;simp;omega))⟩|go_keep)
   (first
    | (go_at_call 53;(with_reducible refine (ln_plus hA hB zA zB hK2).mono ?_);rintro e w9 ⟨_,rfl,hS,hb⟩;obtain⟨ahS,nhS,chS,rfl⟩:=hS.shape;replace hs:=ar hs hb;replace B1:=B1.mono hb;replace B2:=B2.mono hb;replace B0:=B0.mono hb;replace B7:=B7.mono hb;replace B6:=B6.mono hb;replace B9:=B9.mono hb;replace B8:=B8.mono hb;replace hd:=hd.mono hb;replace he:=he.mono hb;replace hA:=hA.mono hb;replace hB:=hB.mono hb;replace hD:=hD.mono hb;replace B3:=ah B3 hb;replace B4:=ah B4 hb;replace B5:=ah B5 hb;clear hb)
    | (go_at_call 50;(with_reducible refine (ip gx _ _ _ _ _ _ hS hD hd0 hK3 ZS.out zD').mono ?_);rintro e Bu ⟨_,rfl,hQ,hb⟩;obtain⟨shQ,Bn,Bp,Bo,Bk,Bm,Bl,rfl⟩:=hQ.shape;replace hs:=ar hs hb;replace B1:=B1.mono hb;replace B2:=B2.mono hb;replace B0:=B0.mono hb;replace B7:=B7.mono hb;replace B6:=B6.mono hb;replace B9:=B9.mono hb;replace B8:=B8.mono hb;replace hd:=hd.mono hb;replace he:=he.mono hb;replace hA:=hA.mono hb;replace hB:=hB.mono hb;replace hD:=hD.mono hb;replace hS:=hS.mono hb;replace B3:=ah B3 hb;replace B4:=ah B4 hb;replace B5:=ah B5 hb;clear hb;have Bw:Bu.cell? ⟨w.heap.size + 1 + 1,0,none⟩=some (.bool false):=B0.at 0 rfl;have By:Bu.cell? ⟨w.heap.size + 1 + 1,1,none⟩=some (.slice none 0 0):=B0.at 1 rfl;have Bz:Bu.cell? ⟨w.heap.size + 1 + 1,2,none⟩=some (.slice none 0 0):=B0.at 2 rfl;have fz:=B0.free))
  clear B3 B4 B5
  go_wp2
  refine bodyPost.abs ?_
  intro Bi hW
  have Bh:=hs.size
  have lx:=B1.lt
  have ly:=B2.lt
  have lz:=B0.lt
  have Bg:Below w.heap.size w Bi:=by rw[hW];exact (Below.setCell (Below.setCell (Below.setCell hs (by first|exact ag _|omega|(have:=hs.size;simp;done)|(have:=hs.size;simp;omega)) _) (by first|exact ag _|omega|(have:=hs.size;simp;done)|(have:=hs.size;simp;omega)) _) (by first|exact ag _|omega|(have:=hs.size;simp;done)|(have:=hs.size;simp;omega)) _)
  have hk:aw Bu Bi:=by rw[hW];exact (aw.set (aw.set (aw.set (aw.refl _) B0.ty (by decide) _ _) (TyB.store B0.ty _ _) (by decide) _ _) (TyB.store (TyB.store B0.ty _ _) _ _) (by decide) _ _)
  have Bd:Bx Bi (w.heap.size) 37 #[.bool gx,.slice ax nx cx,.slice Ax Nx Cx]:=by rw[hW];exact (Bx.far (Bx.far (Bx.far B1 (by first|omega|(simp;done)|(simp;omega)) _) (by first|omega|(simp;done)|(simp;omega)) _) (by first|omega|(simp;done)|(simp;omega)) _)
  have Be:Bx Bi (w.heap.size + 1) 37 #[.bool gx,.slice ay ny cy,.slice Ay Ny Cy]:=by rw[hW];exact (Bx.far (Bx.far (Bx.far B2 (by first|omega|(simp;done)|(simp;omega)) _) (by first|omega|(simp;done)|(simp;omega)) _) (by first|omega|(simp;done)|(simp;omega)) _)
  have Bf:Bx Bi (w.heap.size + 1 + 1) 37 #[.bool shQ,.slice Bn Bp Bo,.slice Bk Bm Bl]:=by rw[hW];exact (Bx.set (Bx.set (Bx.set B0 0 _ rfl) 1 _ rfl) 2 _ rfl)
  replace hs:=Bg
  clear Bg
  replace B1:=Bd
  clear Bd
  replace B2:=Be
  clear Be
  replace B0:=Bf
  clear Bf
  revert hD hA hB hd he B7 B6 B9 B8;revert hQ;revert hS;refine ke hk ?_;intro hS hQ hD hA hB hd he B7 B6 B9 B8
  clear hW hk Bh lx ly lz
  exact mx rfl rfl rfl B0 (hQ.of_eq (E1.out (by first|rfl|trivial)).symm) hs
 have hgb:(gx == gy)=false:=by rw[beq_eq_false_iff_ne];exact hgg
 have HGG:=ae hgg
 clear hgg
 refine B1.k3 fun B3 B4 B5=>?_
 refine B2.k3 fun Ba Bb Bc=>?_
 go_wp2_with fail
 clear B3 B4 B5 Ba Bb Bc
 refine (ur hA hB).mono ?_
 rintro e w8 ⟨rfl,hb⟩
 revert hD hA hB B1 B2 B0 hd he B7 B6 B9 B8;refine mS hs hb ?_;clear hs hb;intro hs hD hA hB B1 B2 B0 hd he B7 B6 B9 B8
 by_cases Bt:N2≤N1
 ·have hord:=ub Bt
  have Bv:=ae Bt
  clear Bt
  go_wp2
  refine Code.abs ?_
  intro w9 hW
  have Bh:=hs.size
  have lx:=B1.lt
  have ly:=B2.lt
  have lz:=B0.lt
  have Bg:Below w.heap.size w w9:=by rw[hW];exact hs
  have hk:aw w8 w9:=by rw[hW];exact (aw.refl _)
  have Bd:Bx w9 (w.heap.size) 37 #[.bool gx,.slice ax nx cx,.slice Ax Nx Cx]:=by rw[hW];exact B1
  have Be:Bx w9 (w.heap.size + 1) 37 #[.bool gy,.slice ay ny cy,.slice Ay Ny Cy]:=by rw[hW];exact B2
  have Bf:Bx w9 (w.heap.size + 1 + 1) 37 #[.bool false,.slice none 0 0,.slice none 0 0]:=by rw[hW];exact B0
  replace hs:=Bg
  clear Bg
  replace B1:=Bd
  clear Bd
  replace B2:=Be
  clear Be
  replace B0:=Bf
  clear Bf
  revert hD hA hB hd he B7 B6 B9 B8;refine ke hk ?_;intro hD hA hB hd he B7 B6 B9 B8
  clear hW hk Bh lx ly lz
  have hb:=de w9
  revert B1 B2 B0 hD hA hB hd he B7 B6 B9 B8;refine mS hs hb ?_;clear hs hb;intro hs B1 B2 B0 hD hA hB hd he B7 B6 B9 B8
  refine B1.k3 fun B3 B4 B5=>?_
  go_region_held3 (fun w'=>w'.cell? ⟨w.heap.size,0,none⟩=some (.bool gx)∧w'.cell? ⟨w.heap.size,1,none⟩=some (.slice ax nx cx)∧w'.cell? ⟨w.heap.size,2,none⟩=some (.slice Ax Nx Cx))
   (first|exact⟨B3,B4,B5⟩|exact⟨bh (bh (bh (B3) (by first|omega|(have:=hs.size;simp;done)|(have:=hs.size;simp;omega))) (by first|omega|(have:=hs.size;simp;done)|(have:=hs.size;simp;omega))) (by first|omega|(have:=hs.size;simp;done)|(have:=hs.size;simp;omega)),bh (bh (bh (B4) (by first|omega|(have:=hs.size;simp;done)|(have:=hs.size;simp;omega))) (by first|omega|(have:=hs.size;simp;done)|(have:=hs.size;simp;omega))) (by first|omega|(have:=hs.size;simp;done)|(have:=hs.size;simp;omega)),bh (bh (bh (B5) (by first|omega|(have:=hs.size;simp;done)|(have:=hs.size;simp;omega))) (by first|omega|(have:=hs.size;simp;done)|(have:=hs.size;simp;omega))) (by first|omega|(have:=hs.size;simp;done)|(have:=hs.size;simp;omega))⟩|go_keep)
   (first
    | (go_at_call 54;(with_reducible refine (ln_minus hA hB zA Bv.out hK2).mono ?_);rintro e Bu ⟨_,rfl,hS,hb⟩;obtain⟨ahS,nhS,chS,rfl⟩:=hS.shape;replace hs:=ar hs hb;replace B1:=B1.mono hb;replace B2:=B2.mono hb;replace B0:=B0.mono hb;replace B7:=B7.mono hb;replace B6:=B6.mono hb;replace B9:=B9.mono hb;replace B8:=B8.mono hb;replace hd:=hd.mono hb;replace he:=he.mono hb;replace hA:=hA.mono hb;replace hB:=hB.mono hb;replace hD:=hD.mono hb;replace B3:=ah B3 hb;replace B4:=ah B4 hb;replace B5:=ah B5 hb;clear hb)
    | (go_at_call 50;(with_reducible refine (ip gx _ _ _ _ _ _ hS hD hd0 hK3 ZS1.out zD').mono ?_);rintro e Bi ⟨_,rfl,hQ,hb⟩;obtain⟨shQ,Bn,Bp,Bo,Bk,Bm,Bl,rfl⟩:=hQ.shape;replace hs:=ar hs hb;replace B1:=B1.mono hb;replace B2:=B2.mono hb;replace B0:=B0.mono hb;replace B7:=B7.mono hb;replace B6:=B6.mono hb;replace B9:=B9.mono hb;replace B8:=B8.mono hb;replace hd:=hd.mono hb;replace he:=he.mono hb;replace hA:=hA.mono hb;replace hB:=hB.mono hb;replace hD:=hD.mono hb;replace hS:=hS.mono hb;replace B3:=ah B3 hb;replace B4:=ah B4 hb;replace B5:=ah B5 hb;clear hb;have Bw:Bi.cell? ⟨w.heap.size + 1 + 1,0,none⟩=some (.bool false):=B0.at 0 rfl;have By:Bi.cell? ⟨w.heap.size + 1 + 1,1,none⟩=some (.slice none 0 0):=B0.at 1 rfl;have Bz:Bi.cell? ⟨w.heap.size + 1 + 1,2,none⟩=some (.slice none 0 0):=B0.at 2 rfl;have fz:=B0.free))
  clear B3 B4 B5
  go_wp2
  refine bodyPost.abs ?_
  intro Bj hW
  have Bh:=hs.size
  have lx:=B1.lt
  have ly:=B2.lt
  have lz:=B0.lt
  have Bg:Below w.heap.size w Bj:=by rw[hW];exact (Below.setCell (Below.setCell (Below.setCell hs (by first|exact ag _|omega|(have:=hs.size;simp;done)|(have:=hs.size;simp;omega)) _) (by first|exact ag _|omega|(have:=hs.size;simp;done)|(have:=hs.size;simp;omega)) _) (by first|exact ag _|omega|(have:=hs.size;simp;done)|(have:=hs.size;simp;omega)) _)
  have hk:aw Bi Bj:=by rw[hW];exact (aw.set (aw.set (aw.set (aw.refl _) B0.ty (by decide) _ _) (TyB.store B0.ty _ _) (by decide) _ _) (TyB.store (TyB.store B0.ty _ _) _ _) (by decide) _ _)
  have Bd:Bx Bj (w.heap.size) 37 #[.bool gx,.slice ax nx cx,.slice Ax Nx Cx]:=by rw[hW];exact (Bx.far (Bx.far (Bx.far B1 (by first|omega|(simp;done)|(simp;omega)) _) (by first|omega|(simp;done)|(simp;omega)) _) (by first|omega|(simp;done)|(simp;omega)) _)
  have Be:Bx Bj (w.heap.size + 1) 37 #[.bool gy,.slice ay ny cy,.slice Ay Ny Cy]:=by rw[hW];exact (Bx.far (Bx.far (Bx.far B2 (by first|omega|(simp;done)|(simp;omega)) _) (by first|omega|(simp;done)|(simp;omega)) _) (by first|omega|(simp;done)|(simp;omega)) _)
  have Bf:Bx Bj (w.heap.size + 1 + 1) 37 #[.bool shQ,.slice Bn Bp Bo,.slice Bk Bm Bl]:=by rw[hW];exact (Bx.set (Bx.set (Bx.set B0 0 _ rfl) 1 _ rfl) 2 _ rfl)
  replace hs:=Bg
  clear Bg
  replace B1:=Bd
  clear Bd
  replace B2:=Be
  clear Be
  replace B0:=Bf
  clear Bf
  revert hD hA hB hd he B7 B6 B9 B8;revert hQ;revert hS;refine ke hk ?_;intro hS hQ hD hA hB hd he B7 B6 B9 B8
  clear hW hk Bh lx ly lz
  exact mx rfl rfl rfl B0 (hQ.of_eq (E2.out HGG.out Bv.out).symm) hs
 have hord:=ws (show N1 < N2 by omega)
 have Bt:N1≤N2:=by omega
 have Bv:=ae Bt
 clear Bt
 go_wp2
 refine Code.abs ?_
 intro w9 hW
 have Bh:=hs.size
 have lx:=B1.lt
 have ly:=B2.lt
 have lz:=B0.lt
 have Bg:Below w.heap.size w w9:=by rw[hW];exact hs
 have hk:aw w8 w9:=by rw[hW];exact (aw.refl _)
 have Bd:Bx w9 (w.heap.size) 37 #[.bool gx,.slice ax nx cx,.slice Ax Nx Cx]:=by rw[hW];exact B1
 have Be:Bx w9 (w.heap.size + 1) 37 #[.bool gy,.slice ay ny cy,.slice Ay Ny Cy]:=by rw[hW];exact B2
 have Bf:Bx w9 (w.heap.size + 1 + 1) 37 #[.bool false,.slice none 0 0,.slice none 0 0]:=by rw[hW];exact B0
 replace hs:=Bg
 clear Bg
 replace B1:=Bd
 clear Bd
 replace B2:=Be
 clear Be
 replace B0:=Bf
 clear Bf
 revert hD hA hB hd he B7 B6 B9 B8;refine ke hk ?_;intro hD hA hB hd he B7 B6 B9 B8
 clear hW hk Bh lx ly lz
 have hb:=de w9
 revert B1 B2 B0 hD hA hB hd he B7 B6 B9 B8;refine mS hs hb ?_;clear hs hb;intro hs B1 B2 B0 hD hA hB hd he B7 B6 B9 B8
 refine B2.k3 fun Ba Bb Bc=>?_
 go_region_held3 (fun w'=>w'.cell? ⟨w.heap.size + 1,0,none⟩=some (.bool gy)∧w'.cell? ⟨w.heap.size + 1,1,none⟩=some (.slice ay ny cy)∧w'.cell? ⟨w.heap.size + 1,2,none⟩=some (.slice Ay Ny Cy))
  (first|exact⟨Ba,Bb,Bc⟩|exact⟨bh (bh (bh (Ba) (by first|omega|(have:=hs.size;simp;done)|(have:=hs.size;simp;omega))) (by first|omega|(have:=hs.size;simp;done)|(have:=hs.size;simp;omega))) (by first|omega|(have:=hs.size;simp;done)|(have:=hs.size;simp;omega)),bh (bh (bh (Bb) (by first|omega|(have:=hs.size;simp;done)|(have:=hs.size;simp;omega))) (by first|omega|(have:=hs.size;simp;done)|(have:=hs.size;simp;omega))) (by first|omega|(have:=hs.size;simp;done)|(have:=hs.size;simp;omega)),bh (bh (bh (Bc) (by first|omega|(have:=hs.size;simp;done)|(have:=hs.size;simp;omega))) (by first|omega|(have:=hs.size;simp;done)|(have:=hs.size;simp;omega))) (by first|omega|(have:=hs.size;simp;done)|(have:=hs.size;simp;omega))⟩|go_keep)
  (first
   | (go_at_call 54;(with_reducible refine (ln_minus hB hA zB Bv.out hK2).mono ?_);rintro e Bu ⟨_,rfl,hS,hb⟩;obtain⟨ahS,nhS,chS,rfl⟩:=hS.shape;replace hs:=ar hs hb;replace B1:=B1.mono hb;replace B2:=B2.mono hb;replace B0:=B0.mono hb;replace B7:=B7.mono hb;replace B6:=B6.mono hb;replace B9:=B9.mono hb;replace B8:=B8.mono hb;replace hd:=hd.mono hb;replace he:=he.mono hb;replace hA:=hA.mono hb;replace hB:=hB.mono hb;replace hD:=hD.mono hb;replace Ba:=ah Ba hb;replace Bb:=ah Bb hb;replace Bc:=ah Bc hb;clear hb)
   | (go_at_call 50;(with_reducible refine (ip gy _ _ _ _ _ _ hS hD hd0 hK3 ZS2.out zD').mono ?_);rintro e Bi ⟨_,rfl,hQ,hb⟩;obtain⟨shQ,Bn,Bp,Bo,Bk,Bm,Bl,rfl⟩:=hQ.shape;replace hs:=ar hs hb;replace B1:=B1.mono hb;replace B2:=B2.mono hb;replace B0:=B0.mono hb;replace B7:=B7.mono hb;replace B6:=B6.mono hb;replace B9:=B9.mono hb;replace B8:=B8.mono hb;replace hd:=hd.mono hb;replace he:=he.mono hb;replace hA:=hA.mono hb;replace hB:=hB.mono hb;replace hD:=hD.mono hb;replace hS:=hS.mono hb;replace Ba:=ah Ba hb;replace Bb:=ah Bb hb;replace Bc:=ah Bc hb;clear hb;have Bw:Bi.cell? ⟨w.heap.size + 1 + 1,0,none⟩=some (.bool false):=B0.at 0 rfl;have By:Bi.cell? ⟨w.heap.size + 1 + 1,1,none⟩=some (.slice none 0 0):=B0.at 1 rfl;have Bz:Bi.cell? ⟨w.heap.size + 1 + 1,2,none⟩=some (.slice none 0 0):=B0.at 2 rfl;have fz:=B0.free))
 clear Ba Bb Bc
 go_wp2
 refine bodyPost.abs ?_
 intro Bj hW
 have Bh:=hs.size
 have lx:=B1.lt
 have ly:=B2.lt
 have lz:=B0.lt
 have Bg:Below w.heap.size w Bj:=by rw[hW];exact (Below.setCell (Below.setCell (Below.setCell hs (by first|exact ag _|omega|(have:=hs.size;simp;done)|(have:=hs.size;simp;omega)) _) (by first|exact ag _|omega|(have:=hs.size;simp;done)|(have:=hs.size;simp;omega)) _) (by first|exact ag _|omega|(have:=hs.size;simp;done)|(have:=hs.size;simp;omega)) _)
 have hk:aw Bi Bj:=by rw[hW];exact (aw.set (aw.set (aw.set (aw.refl _) B0.ty (by decide) _ _) (TyB.store B0.ty _ _) (by decide) _ _) (TyB.store (TyB.store B0.ty _ _) _ _) (by decide) _ _)
 have Bd:Bx Bj (w.heap.size) 37 #[.bool gx,.slice ax nx cx,.slice Ax Nx Cx]:=by rw[hW];exact (Bx.far (Bx.far (Bx.far B1 (by first|omega|(simp;done)|(simp;omega)) _) (by first|omega|(simp;done)|(simp;omega)) _) (by first|omega|(simp;done)|(simp;omega)) _)
 have Be:Bx Bj (w.heap.size + 1) 37 #[.bool gy,.slice ay ny cy,.slice Ay Ny Cy]:=by rw[hW];exact (Bx.far (Bx.far (Bx.far B2 (by first|omega|(simp;done)|(simp;omega)) _) (by first|omega|(simp;done)|(simp;omega)) _) (by first|omega|(simp;done)|(simp;omega)) _)
 have Bf:Bx Bj (w.heap.size + 1 + 1) 37 #[.bool shQ,.slice Bn Bp Bo,.slice Bk Bm Bl]:=by rw[hW];exact (Bx.set (Bx.set (Bx.set B0 0 _ rfl) 1 _ rfl) 2 _ rfl)
 replace hs:=Bg
 clear Bg
 replace B1:=Bd
 clear Bd
 replace B2:=Be
 clear Be
 replace B0:=Bf
 clear Bf
 revert hD hA hB hd he B7 B6 B9 B8;revert hQ;revert hS;refine ke hk ?_;intro hS hQ hD hA hB hd he B7 B6 B9 B8
 clear hW hk Bh lx ly lz
 exact mx rfl rfl rfl B0 (hQ.of_eq (E3.out HGG.out Bv.out).symm) hs
theorem SzP.neg {K:Nat} {x:Rat} (hx:SzP K x):SzP K (-x):=by
 unfold SzP at *
 rw[Rat.neg_num,Rat.neg_den,Int.natAbs_neg]
 exact hx
theorem p_less_calls (vx vy:Value) (x y:Rat) (K:Nat) (w:World) (hx:PV w vx x) (hy:PV w vy y) (hK:K≤268435456) (sx:SzP K x) (sy:SzP K y):Calls Tryz.prog 55 #[vx,vy] w (mp w (x - y)):=by
 obtain⟨gx,ax,nx,cx,Ax,Nx,Cx,rfl⟩:=hx.shape
 have Bq:=hx.sign
 have EGx:=ae Bq
 obtain⟨gy,ay,ny,cy,Ay,Ny,Cy,rfl⟩:=hy.shape
 have Br:=hy.sign
 have EGy:=ae Br
 rw[Rat.sub_eq_add_neg]
 have sy':=sy.neg
 clear Bq
 clear Br
 have hs:=Below.refl w.heap.size w
 go_enter Tryz.func55,Tryz.ntmps55
 go_wp2_with fail
 refine Code.abs ?_
 intro w1 hW
 have Bh:=hs.size
 have Bg:Below w.heap.size w w1:=by rw[hW];exact (Below.alloc (Below.alloc (Below.alloc hs (by first|exact hs.size|(have:=hs.size;simp;done)|(have:=hs.size;simp;omega)) _) (by first|exact hs.size|(have:=hs.size;simp;done)|(have:=hs.size;simp;omega)) _) (by first|exact hs.size|(have:=hs.size;simp;done)|(have:=hs.size;simp;omega)) _)
 have hk:aw w w1:=by rw[hW];exact ((((aw.refl _).alloc _).alloc _).alloc _)
 have Bd:Bx w1 (w.heap.size) 37 #[.bool gx,.slice ax nx cx,.slice Ax Nx Cx]:=by rw[hW];exact (((Bx.new' _ _ _ _ (by first|rfl|(simp;done))).alloc _).alloc _)
 have Be:Bx w1 (w.heap.size + 1) 37 #[.bool gy,.slice ay ny cy,.slice Ay Ny Cy]:=by rw[hW];exact ((Bx.new' _ _ _ _ (by first|rfl|(simp;done))).alloc _)
 have Bf:Bx w1 (w.heap.size + 1 + 1) 37 #[.bool false,.slice none 0 0,.slice none 0 0]:=by rw[hW];exact (Bx.new' _ _ _ _ (by first|rfl|(simp;done)))
 replace hs:=Bg
 clear Bg
 have B1:=Bd
 clear Bd
 have B2:=Be
 clear Be
 have B0:=Bf
 clear Bf
 revert hy;revert hx;refine ke hk ?_;intro hx hy
 clear hW hk Bh
 have C2:=B0.lt
 have hb:=de w1
 revert B1 B2 B0 hx hy;refine mS hs hb ?_;clear hs hb;intro hs B1 B2 B0 hx hy
 refine B1.k3 fun B3 B4 B5=>?_
 refine B2.k3 fun Ba Bb Bc=>?_
 go_region_held3 (fun w'=>w'.cell? ⟨w.heap.size,0,none⟩=some (.bool gx)∧w'.cell? ⟨w.heap.size,1,none⟩=some (.slice ax nx cx)∧w'.cell? ⟨w.heap.size,2,none⟩=some (.slice Ax Nx Cx)∧w'.cell? ⟨w.heap.size + 1,0,none⟩=some (.bool gy)∧w'.cell? ⟨w.heap.size + 1,1,none⟩=some (.slice ay ny cy)∧w'.cell? ⟨w.heap.size + 1,2,none⟩=some (.slice Ay Ny Cy))
  (first|exact⟨B3,B4,B5,Ba,Bb,Bc⟩|exact⟨bh (bh (bh (B3) (by first|omega|(have:=hs.size;simp;done)|(have:=hs.size;simp;omega))) (by first|omega|(have:=hs.size;simp;done)|(have:=hs.size;simp;omega))) (by first|omega|(have:=hs.size;simp;done)|(have:=hs.size;simp;omega)),bh (bh (bh (B4) (by first|omega|(have:=hs.size;simp;done)|(have:=hs.size;simp;omega))) (by first|omega|(have:=hs.size;simp;done)|(have:=hs.size;simp;omega))) (by first|omega|(have:=hs.size;simp;done)|(have:=hs.size;simp;omega)),bh (bh (bh (B5) (by first|omega|(have:=hs.size;simp;done)|(have:=hs.size;simp;omega))) (by first|omega|(have:=hs.size;simp;done)|(have:=hs.size;simp;omega))) (by first|omega|(have:=hs.size;simp;done)|(have:=hs.size;simp;omega)),bh (bh (bh (Ba) (by first|omega|(have:=hs.size;simp;done)|(have:=hs.size;simp;omega))) (by first|omega|(have:=hs.size;simp;done)|(have:=hs.size;simp;omega))) (by first|omega|(have:=hs.size;simp;done)|(have:=hs.size;simp;omega)),bh (bh (bh (Bb) (by first|omega|(have:=hs.size;simp;done)|(have:=hs.size;simp;omega))) (by first|omega|(have:=hs.size;simp;done)|(have:=hs.size;simp;omega))) (by first|omega|(have:=hs.size;simp;done)|(have:=hs.size;simp;omega)),bh (bh (bh (Bc) (by first|omega|(have:=hs.size;simp;done)|(have:=hs.size;simp;omega))) (by first|omega|(have:=hs.size;simp;done)|(have:=hs.size;simp;omega))) (by first|omega|(have:=hs.size;simp;done)|(have:=hs.size;simp;omega))⟩|go_keep)
  (first
   | (go_at_call 184;(with_reducible refine (p_Neg_calls _ y _ hy).mono ?_);rintro e w2 ⟨_,rfl,hn,hb⟩;obtain⟨shn,ahn,nhn,chn,Ahn,Nhn,Chn,rfl⟩:=hn.shape;replace hs:=ar hs hb;replace B1:=B1.mono hb;replace B2:=B2.mono hb;replace B0:=B0.mono hb;replace hx:=hx.mono hb;replace hy:=hy.mono hb;replace B3:=ah B3 hb;replace B4:=ah B4 hb;replace B5:=ah B5 hb;replace Ba:=ah Ba hb;replace Bb:=ah Bb hb;replace Bc:=ah Bc hb;clear hb)
   | (go_at_call 15;(with_reducible refine (zj _ _ x (-y) K _ hx hn hK sx sy').mono ?_);rintro e w3 ⟨_,rfl,hQ,hb⟩;obtain⟨shQ,Bn,Bp,Bo,Bk,Bm,Bl,rfl⟩:=hQ.shape;replace hs:=ar hs hb;replace B1:=B1.mono hb;replace B2:=B2.mono hb;replace B0:=B0.mono hb;replace hx:=hx.mono hb;replace hy:=hy.mono hb;replace hn:=hn.mono hb;replace B3:=ah B3 hb;replace B4:=ah B4 hb;replace B5:=ah B5 hb;replace Ba:=ah Ba hb;replace Bb:=ah Bb hb;replace Bc:=ah Bc hb;clear hb;have Bw:w3.cell? ⟨w.heap.size + 1 + 1,0,none⟩=some (.bool false):=B0.at 0 rfl;have By:w3.cell? ⟨w.heap.size + 1 + 1,1,none⟩=some (.slice none 0 0):=B0.at 1 rfl;have Bz:w3.cell? ⟨w.heap.size + 1 + 1,2,none⟩=some (.slice none 0 0):=B0.at 2 rfl;have fz:=B0.free))
 clear B3 B4 B5 Ba Bb Bc
 go_wp2
 refine bodyPost.abs ?_
 intro w4 hW
 have Bh:=hs.size
 have lx:=B1.lt
 have ly:=B2.lt
 have lz:=B0.lt
 have Bg:Below w.heap.size w w4:=by rw[hW];exact (Below.setCell (Below.setCell (Below.setCell hs (by first|exact ag _|omega|(have:=hs.size;simp;done)|(have:=hs.size;simp;omega)) _) (by first|exact ag _|omega|(have:=hs.size;simp;done)|(have:=hs.size;simp;omega)) _) (by first|exact ag _|omega|(have:=hs.size;simp;done)|(have:=hs.size;simp;omega)) _)
 have hk:aw w3 w4:=by rw[hW];exact (aw.set (aw.set (aw.set (aw.refl _) B0.ty (by decide) _ _) (TyB.store B0.ty _ _) (by decide) _ _) (TyB.store (TyB.store B0.ty _ _) _ _) (by decide) _ _)
 have Bd:Bx w4 (w.heap.size) 37 #[.bool gx,.slice ax nx cx,.slice Ax Nx Cx]:=by rw[hW];exact (Bx.far (Bx.far (Bx.far B1 (by first|omega|(simp;done)|(simp;omega)) _) (by first|omega|(simp;done)|(simp;omega)) _) (by first|omega|(simp;done)|(simp;omega)) _)
 have Be:Bx w4 (w.heap.size + 1) 37 #[.bool gy,.slice ay ny cy,.slice Ay Ny Cy]:=by rw[hW];exact (Bx.far (Bx.far (Bx.far B2 (by first|omega|(simp;done)|(simp;omega)) _) (by first|omega|(simp;done)|(simp;omega)) _) (by first|omega|(simp;done)|(simp;omega)) _)
 have Bf:Bx w4 (w.heap.size + 1 + 1) 37 #[.bool shQ,.slice Bn Bp Bo,.slice Bk Bm Bl]:=by rw[hW];exact (Bx.set (Bx.set (Bx.set B0 0 _ rfl) 1 _ rfl) 2 _ rfl)
 replace hs:=Bg
 clear Bg
 replace B1:=Bd
 clear Bd
 replace B2:=Be
 clear Be
 replace B0:=Bf
 clear Bf
 revert hx hy;revert hQ;revert hn;refine ke hk ?_;intro hn hQ hx hy
 clear hW hk Bh lx ly lz
 exact mx rfl rfl rfl B0 hQ hs
end Go.Proofs.YtidmjdmmpajooaaGreat
