/-
  The contracts of the program's fractions, fourth part: Sub, Same, Cmp, Text.
-/
import Derived.Test.YtidmjdmmpajooaaGreatRatP3N
set_option linter.unusedSimpArgs false
set_option linter.unusedVariables false
set_option maxRecDepth 100000
set_option maxHeartbeats 4000000
namespace Go.Proofs.YtidmjdmmpajooaaGreat
open Go.RowKit Dg
attribute [local go_sem ↓] Go.wp_at_zero Go.wp_at_succ
theorem rat_ext_iff (x y:Rat):x=y↔ng x=ng y∧x.num.natAbs=y.num.natAbs∧(if x.den=1 then 0 else x.den)=(if y.den=1 then 0 else y.den):=by
 constructor
 ·rintro rfl;exact⟨rfl,rfl,rfl⟩
 rintro ⟨h1,h2,h3⟩
 have dx:=x.den_pos
 have dy:=y.den_pos
 refine Rat.ext ?_ ?_
 ·rw[qi x,qi y,h1,h2]
 split at h3<;>split at h3<;>omega
theorem ordN_zero (a b:Nat):(gn a b == 0)=decide (a=b):=by
 rw[Bool.eq_iff_iff,beq_iff_eq,decide_eq_true_eq]
 unfold gn
 split
 ·omega
 split<;>omega
theorem sgQ_sub (x y:Rat):sgQ (x - y)=if x < y then -1 else if x=y then 0 else 1:=by
 have h1:(x - y).num < 0↔x < y:=by
  rw[←Int.not_le,Rat.num_nonneg]
  grind
 have h2:(x - y).num=0↔x=y:=by
  rw[Rat.num_eq_zero]
  grind
 unfold sgQ
 simp only[h1,h2]
theorem cmp_core (a b:Int) (P Q:Nat) (p1:a≠0→0 < P) (p2:b≠0→0 < Q) (p3:a=0→P=0) (p4:b=0→Q=0):
  (if (if a < 0 then -(P:Int) else P) < (if b < 0 then -(Q:Int) else Q) then (-1:Int) else if (if a < 0 then -(P:Int) else P)=(if b < 0 then -(Q:Int) else Q) then 0 else 1)=
  if (if a < 0 then (-1:Int) else if a=0 then 0 else 1)=(if b < 0 then (-1:Int) else if b=0 then 0 else 1) then (if P < Q then (-1:Int) else if Q < P then 1 else 0) * (if a < 0 then (-1:Int) else if a=0 then 0 else 1)
  else if (if a < 0 then (-1:Int) else if a=0 then 0 else 1) < (if b < 0 then (-1:Int) else if b=0 then 0 else 1) then -1 else 1:=by
 have q1:a < 0→¬ 0 < a:=by omega
 have q2:0 < a→¬ a < 0:=by omega
 have q3:0 < a→¬ a=0:=by omega
 have q4:a < 0→¬ a=0:=by omega
 have r2:0 < b→¬ b < 0:=by omega
 have r3:0 < b→¬ b=0:=by omega
 have r4:b < 0→¬ b=0:=by omega
 rcases Int.lt_trichotomy a 0 with h|h|h<;>rcases Int.lt_trichotomy b 0 with h'|h'|h'<;>(try have h1:=q2 h)<;>(try have h2:=q3 h)<;>(try have h2:=q4 h)<;>(try have h3:=r2 h')<;>(try have h4:=r3 h')<;>(try have h4:=r4 h')<;>clear q1 q2 q3 q4 r2 r3 r4<;>(first|rw[if_pos h]|skip)<;>grind
theorem cmp_eq (x y:Rat):sgQ (x - y)=if sgQ x=sgQ y then gn (x.num.natAbs * y.den) (y.num.natAbs * x.den) * sgQ x else if sgQ x < sgQ y then -1 else 1:=by
 rw[sgQ_sub]
 have hlt:=Rat.lt_iff x y
 have heq:=@Rat.eq_iff_mul_eq_mul x y
 have dx:=x.den_pos
 have dy:=y.den_pos
 have e1:((x.num.natAbs * y.den:Nat):Int)=x.num.natAbs * y.den:=by simp
 have e2:((y.num.natAbs * x.den:Nat):Int)=y.num.natAbs * x.den:=by simp
 have s1:x.num * y.den=if x.num < 0 then -((x.num.natAbs * y.den:Nat):Int) else ((x.num.natAbs * y.den:Nat):Int):=by
  rw[e1];split
  ·rw[show ((x.num.natAbs:Int))= -x.num from by omega];simp[Int.neg_mul]
  rw[show ((x.num.natAbs:Int))=x.num from by omega]
 have s2:y.num * x.den=if y.num < 0 then -((y.num.natAbs * x.den:Nat):Int) else ((y.num.natAbs * x.den:Nat):Int):=by
  rw[e2];split
  ·rw[show ((y.num.natAbs:Int))= -y.num from by omega];simp[Int.neg_mul]
  rw[show ((y.num.natAbs:Int))=y.num from by omega]
 rw[s1,s2] at hlt heq
 have:=cmp_core x.num y.num (x.num.natAbs * y.den) (y.num.natAbs * x.den) (fun h=>Nat.mul_pos (by omega) dy) (fun h=>Nat.mul_pos (by omega) dx) (fun h=>by rw[h];simp) (fun h=>by rw[h];simp)
 unfold sgQ gn
 rw[←this]
 simp only[hlt,heq]
theorem sgQ_bound (x:Rat): -1≤sgQ x∧sgQ x≤1:=by unfold sgQ;split<;>(try split)<;>omega
theorem ordN_bound (a b:Nat): -1≤gn a b∧gn a b≤1:=by unfold gn;split<;>(try split)<;>omega
theorem mul_small {a b:Int} (ha: -1≤a∧a≤1) (hb: -1≤b∧b≤1):IntKind.i64.wrap (a * b)=a * b∧wrap64 (a * b)=a * b:=by
 have h1:a= -1∨a=0∨a=1:=by omega
 have h2:b= -1∨b=0∨b=1:=by omega
 have h: -1≤a * b∧a * b≤1:=by rcases h1 with rfl|rfl|rfl<;>rcases h2 with rfl|rfl|rfl<;>decide
 generalize a * b=c at *
 exact⟨IntWalk.i64_in _ (by omega),IntWalk.wrap64_in _ ⟨by omega,by omega⟩⟩
theorem p_Sub_calls (vx vy:Value) (x y:Rat) (K:Nat) (w:World) (hx:PV w vx x) (hy:PV w vy y) (hK:K≤268435456) (sx:SzP K x) (sy:SzP K y):Calls Tryz.prog 17 #[vx,vy] w (mp w (x - y)):=by
 obtain⟨gx,ax,nx,cx,Ax,Nx,Cx,rfl⟩:=hx.shape
 have Bj:=hx.sign
 have EGx:=ae Bj
 obtain⟨gy,ay,ny,cy,Ay,Ny,Cy,rfl⟩:=hy.shape
 have Bk:=hy.sign
 have EGy:=ae Bk
 clear Bj
 clear Bk
 have hs:=Below.refl w.heap.size w
 go_enter Tryz.func17,Tryz.ntmps17
 go_wp2_with fail
 refine Calls.abs ?_
 intro w1 hW
 have Bf:=hs.size
 have Be:Below w.heap.size w w1:=by rw[hW];exact (Below.alloc (Below.alloc (Below.alloc hs (by first|exact hs.size|(have:=hs.size;simp;done)|(have:=hs.size;simp;omega)) _) (by first|exact hs.size|(have:=hs.size;simp;done)|(have:=hs.size;simp;omega)) _) (by first|exact hs.size|(have:=hs.size;simp;done)|(have:=hs.size;simp;omega)) _)
 have hk:aw w w1:=by rw[hW];exact ((((aw.refl _).alloc _).alloc _).alloc _)
 have Bc:Bx w1 (w.heap.size) 37 #[.bool gx,.slice ax nx cx,.slice Ax Nx Cx]:=by rw[hW];exact (((Bx.new' _ _ _ _ (by first|rfl|(simp;done))).alloc _).alloc _)
 have Bd:Bx w1 (w.heap.size + 1) 37 #[.bool gy,.slice ay ny cy,.slice Ay Ny Cy]:=by rw[hW];exact ((Bx.new' _ _ _ _ (by first|rfl|(simp;done))).alloc _)
 have Bl:Bx w1 (w.heap.size + 1 + 1) 37 #[.bool false,.slice none 0 0,.slice none 0 0]:=by rw[hW];exact (Bx.new' _ _ _ _ (by first|rfl|(simp;done)))
 replace hs:=Be
 clear Be
 have B1:=Bc
 clear Bc
 have B0:=Bd
 clear Bd
 have Bg:=Bl
 clear Bl
 revert hy;revert hx;refine ke hk ?_;intro hx hy
 clear hW hk Bf
 have Bi:=Bg.lt
 refine (p_less_calls _ _ x y K _ hx hy hK sx sy).mono ?_
 rintro e w2 ⟨_,rfl,hQ,hb⟩
 obtain⟨shQ,ahQ,nhQ,chQ,AhQ,NhQ,ChQ,rfl⟩:=hQ.shape
 revert hy;revert hx;revert Bg;revert B0;revert B1;refine mS hs hb ?_;clear hs hb;intro hs B1 B0 Bg hx hy
 refine Bg.k3fl fun Bn Bo Bp fz Lz=>?_
 go_wp2
 refine bodyPost.abs ?_
 intro w3 hW
 have Bf:=hs.size
 have lx:=B1.lt
 have ly:=B0.lt
 have lz:=Bg.lt
 have Be:Below w.heap.size w w3:=by rw[hW];exact (Below.setCell (Below.setCell (Below.setCell hs (by first|exact ag _|omega|(have:=hs.size;simp;done)|(have:=hs.size;simp;omega)) _) (by first|exact ag _|omega|(have:=hs.size;simp;done)|(have:=hs.size;simp;omega)) _) (by first|exact ag _|omega|(have:=hs.size;simp;done)|(have:=hs.size;simp;omega)) _)
 have hk:aw w2 w3:=by rw[hW];exact (aw.set (aw.set (aw.set (aw.refl _) Bg.ty (by decide) _ _) (TyB.store Bg.ty _ _) (by decide) _ _) (TyB.store (TyB.store Bg.ty _ _) _ _) (by decide) _ _)
 have Bc:Bx w3 (w.heap.size) 37 #[.bool gx,.slice ax nx cx,.slice Ax Nx Cx]:=by rw[hW];exact (Bx.far (Bx.far (Bx.far B1 (by first|omega|(simp;done)|(simp;omega)) _) (by first|omega|(simp;done)|(simp;omega)) _) (by first|omega|(simp;done)|(simp;omega)) _)
 have Bd:Bx w3 (w.heap.size + 1) 37 #[.bool gy,.slice ay ny cy,.slice Ay Ny Cy]:=by rw[hW];exact (Bx.far (Bx.far (Bx.far B0 (by first|omega|(simp;done)|(simp;omega)) _) (by first|omega|(simp;done)|(simp;omega)) _) (by first|omega|(simp;done)|(simp;omega)) _)
 have Bl:Bx w3 (w.heap.size + 1 + 1) 37 #[.bool shQ,.slice ahQ nhQ chQ,.slice AhQ NhQ ChQ]:=by rw[hW];exact (Bx.set (Bx.set (Bx.set Bg 0 _ rfl) 1 _ rfl) 2 _ rfl)
 replace hs:=Be
 clear Be
 replace B1:=Bc
 clear Bc
 replace B0:=Bd
 clear Bd
 replace Bg:=Bl
 clear Bl
 revert hQ hx hy;refine ke hk ?_;intro hQ hx hy
 clear hW hk Bf lx ly lz
 exact mx rfl rfl rfl Bg hQ hs
theorem wu (vx vy:Value) (x y:Rat) (w:World) (hx:PV w vx x) (hy:PV w vy y):Calls Tryz.prog 125 #[vx,vy] w (fj w (.bool (decide (x=y)))):=by
 obtain⟨gx,ax,nx,cx,Ax,Nx,Cx,rfl⟩:=hx.shape
 have Bj:=hx.sign
 have EGx:=ae Bj
 have B2:=hx.parts.2.1
 have B4:=hx.parts.2.2
 obtain⟨gy,ay,ny,cy,Ay,Ny,Cy,rfl⟩:=hy.shape
 have Bk:=hy.sign
 have EGy:=ae Bk
 have B3:=hy.parts.2.1
 have B5:=hy.parts.2.2
 have Bh:=rat_ext_iff x y
 rw[←Bj,←Bk] at Bh
 have o1:=ordN_zero x.num.natAbs y.num.natAbs
 have o2:=ordN_zero (if x.den=1 then 0 else x.den) (if y.den=1 then 0 else y.den)
 generalize x.num.natAbs=xn at *
 generalize y.num.natAbs=yn at *
 generalize (if x.den=1 then 0 else x.den)=xd at *
 generalize (if y.den=1 then 0 else y.den)=yd at *
 generalize hO1:gn xn yn=O1 at *
 generalize hO2:gn xd yd=O2 at *
 have HO1:=ae hO1
 have HO2:=ae hO2
 clear hO1 hO2 hx hy
 clear Bj
 clear Bk
 have hs:=Below.refl w.heap.size w
 by_cases h1:gx=gy
 ·subst h1
  by_cases h2:xn=yn
  ·by_cases h3:xd=yd
   ·rw[decide_eq_true (p:=x=y) (Bh.2 ⟨rfl,h2,h3⟩)]
    rw[decide_eq_true h2] at o1
    rw[decide_eq_true h3] at o2
    clear Bh h2 h3
    go_enter Tryz.func125,Tryz.ntmps125
    go_wp2_with fail
    refine Calls.abs ?_
    intro w1 hW
    have Bf:=hs.size
    have Be:Below w.heap.size w w1:=by rw[hW];exact (Below.alloc (Below.alloc hs (by first|exact hs.size|(have:=hs.size;simp;done)|(have:=hs.size;simp;omega)) _) (by first|exact hs.size|(have:=hs.size;simp;done)|(have:=hs.size;simp;omega)) _)
    have hk:aw w w1:=by rw[hW];exact (((aw.refl _).alloc _).alloc _)
    have Bc:Bx w1 (w.heap.size) 37 #[.bool gx,.slice ax nx cx,.slice Ax Nx Cx]:=by rw[hW];exact ((Bx.new' _ _ _ _ (by first|rfl|(simp;done))).alloc _)
    have Bd:Bx w1 (w.heap.size + 1) 37 #[.bool gx,.slice ay ny cy,.slice Ay Ny Cy]:=by rw[hW];exact (Bx.new' _ _ _ _ (by first|rfl|(simp;done)))
    replace hs:=Be
    clear Be
    have B1:=Bc
    clear Bc
    have B0:=Bd
    clear Bd
    revert B5;revert B3;revert B4;revert B2;refine ke hk ?_;intro B2 B4 B3 B5
    clear hW hk Bf
    have Bi:=B0.lt
    refine (ur B2 B3).mono ?_
    rintro e w2 ⟨rfl,hb⟩
    revert B1 B0 B2 B4 B3 B5;refine mS hs hb ?_;clear hs hb;intro hs B1 B0 B2 B4 B3 B5
    rw[HO1.out]
    refine B1.k3 fun B6 B7 B8=>?_
    refine B0.k3 fun B9 Ba Bb=>?_
    go_wp2_with fail
    clear B6 B7 B8 B9 Ba Bb
    refine (ur B4 B5).mono ?_
    rintro e w3 ⟨rfl,hb⟩
    revert B1 B0 B2 B4 B3 B5;refine mS hs hb ?_;clear hs hb;intro hs B1 B0 B2 B4 B3 B5
    rw[HO2.out]
    go_wp2
    go_ret
    exact⟨rfl,hs⟩
   rw[decide_eq_false (p:=x=y) (fun h=>h3 (Bh.1 h).2.2)]
   rw[decide_eq_true h2] at o1
   rw[decide_eq_false h3] at o2
   clear Bh h2 h3
   go_enter Tryz.func125,Tryz.ntmps125
   go_wp2_with fail
   refine Calls.abs ?_
   intro w1 hW
   have Bf:=hs.size
   have Be:Below w.heap.size w w1:=by rw[hW];exact (Below.alloc (Below.alloc hs (by first|exact hs.size|(have:=hs.size;simp;done)|(have:=hs.size;simp;omega)) _) (by first|exact hs.size|(have:=hs.size;simp;done)|(have:=hs.size;simp;omega)) _)
   have hk:aw w w1:=by rw[hW];exact (((aw.refl _).alloc _).alloc _)
   have Bc:Bx w1 (w.heap.size) 37 #[.bool gx,.slice ax nx cx,.slice Ax Nx Cx]:=by rw[hW];exact ((Bx.new' _ _ _ _ (by first|rfl|(simp;done))).alloc _)
   have Bd:Bx w1 (w.heap.size + 1) 37 #[.bool gx,.slice ay ny cy,.slice Ay Ny Cy]:=by rw[hW];exact (Bx.new' _ _ _ _ (by first|rfl|(simp;done)))
   replace hs:=Be
   clear Be
   have B1:=Bc
   clear Bc
   have B0:=Bd
   clear Bd
   revert B5;revert B3;revert B4;revert B2;refine ke hk ?_;intro B2 B4 B3 B5
   clear hW hk Bf
   have Bi:=B0.lt
   refine (ur B2 B3).mono ?_
   rintro e w2 ⟨rfl,hb⟩
   revert B1 B0 B2 B4 B3 B5;refine mS hs hb ?_;clear hs hb;intro hs B1 B0 B2 B4 B3 B5
   rw[HO1.out]
   refine B1.k3 fun B6 B7 B8=>?_
   refine B0.k3 fun B9 Ba Bb=>?_
   go_wp2_with fail
   clear B6 B7 B8 B9 Ba Bb
   refine (ur B4 B5).mono ?_
   rintro e w3 ⟨rfl,hb⟩
   revert B1 B0 B2 B4 B3 B5;refine mS hs hb ?_;clear hs hb;intro hs B1 B0 B2 B4 B3 B5
   rw[HO2.out]
   go_wp2
   go_ret
   exact⟨rfl,hs⟩
  rw[decide_eq_false (p:=x=y) (fun h=>h2 (Bh.1 h).2.1)]
  rw[decide_eq_false h2] at o1
  clear Bh h2
  go_enter Tryz.func125,Tryz.ntmps125
  go_wp2_with fail
  refine Calls.abs ?_
  intro w1 hW
  have Bf:=hs.size
  have Be:Below w.heap.size w w1:=by rw[hW];exact (Below.alloc (Below.alloc hs (by first|exact hs.size|(have:=hs.size;simp;done)|(have:=hs.size;simp;omega)) _) (by first|exact hs.size|(have:=hs.size;simp;done)|(have:=hs.size;simp;omega)) _)
  have hk:aw w w1:=by rw[hW];exact (((aw.refl _).alloc _).alloc _)
  have Bc:Bx w1 (w.heap.size) 37 #[.bool gx,.slice ax nx cx,.slice Ax Nx Cx]:=by rw[hW];exact ((Bx.new' _ _ _ _ (by first|rfl|(simp;done))).alloc _)
  have Bd:Bx w1 (w.heap.size + 1) 37 #[.bool gx,.slice ay ny cy,.slice Ay Ny Cy]:=by rw[hW];exact (Bx.new' _ _ _ _ (by first|rfl|(simp;done)))
  replace hs:=Be
  clear Be
  have B1:=Bc
  clear Bc
  have B0:=Bd
  clear Bd
  revert B5;revert B3;revert B4;revert B2;refine ke hk ?_;intro B2 B4 B3 B5
  clear hW hk Bf
  have Bi:=B0.lt
  refine (ur B2 B3).mono ?_
  rintro e w2 ⟨rfl,hb⟩
  revert B1 B0 B2 B4 B3 B5;refine mS hs hb ?_;clear hs hb;intro hs B1 B0 B2 B4 B3 B5
  rw[HO1.out]
  go_wp2
  go_ret
  exact⟨rfl,hs⟩
 rw[decide_eq_false (p:=x=y) (fun h=>h1 (Bh.1 h).1)]
 have hgb:(gx == gy)=false:=by rw[beq_eq_false_iff_ne];exact h1
 clear Bh h1
 go_enter Tryz.func125,Tryz.ntmps125
 go_wp2
 go_ret
 exact⟨rfl,((Below.refl _ _).alloc (ag _) _).alloc (by simp) _⟩
theorem p_Cmp_calls (vx vy:Value) (x y:Rat) (K:Nat) (w:World) (hx:PV w vx x) (hy:PV w vy y) (hK:K≤268435456) (sx:SzP K x) (sy:SzP K y):Calls Tryz.prog 12 #[vx,vy] w (fj w (.int .i64 (sgQ (x - y)))):=by
 obtain⟨gx,ax,nx,cx,Ax,Nx,Cx,rfl⟩:=hx.shape
 have Bj:=hx.sign
 have EGx:=ae Bj
 have B2:=hx.parts.2.1
 have B4:=hx.parts.2.2
 obtain⟨gy,ay,ny,cy,Ay,Ny,Cy,rfl⟩:=hy.shape
 have Bk:=hy.sign
 have EGy:=ae Bk
 have B3:=hy.parts.2.1
 have B5:=hy.parts.2.2
 have sx1:=sx.1
 have sx2:=sx.2
 have sy1:=sy.1
 have sy2:=sy.2
 have hdx:=x.den_pos
 have hdy:=y.den_pos
 have Bm:K≤1099511627776:=by omega
 have hc:=cmp_eq x y
 have bx:=sgQ_bound x
 have bY:=sgQ_bound y
 have bo:=ordN_bound (x.num.natAbs * y.den) (y.num.natAbs * x.den)
 generalize hX:sgQ x=X at *
 generalize hY:sgQ y=Y at *
 generalize hO:gn (x.num.natAbs * y.den) (y.num.natAbs * x.den)=O at *
 have hm:=mul_small bo bx
 have HX:=ae hX
 have HY:=ae hY
 have HO:=ae hO
 have HM:=ae hm
 generalize sgQ (x - y)=D at *
 clear hX hY hO hm bo
 obtain⟨bx1,bx2⟩:=bx
 obtain⟨by1,by2⟩:=bY
 clear Bj
 clear Bk
 have hs:=Below.refl w.heap.size w
 by_cases h1:X=Y
 ·rw[if_pos h1] at hc
  subst h1
  subst hc
  go_enter Tryz.func12,Tryz.ntmps12
  go_wp2_with fail
  refine Code.abs ?_
  intro w1 hW
  have Bf:=hs.size
  have Be:Below w.heap.size w w1:=by rw[hW];exact (Below.alloc (Below.alloc hs (by first|exact hs.size|(have:=hs.size;simp;done)|(have:=hs.size;simp;omega)) _) (by first|exact hs.size|(have:=hs.size;simp;done)|(have:=hs.size;simp;omega)) _)
  have hk:aw w w1:=by rw[hW];exact (((aw.refl _).alloc _).alloc _)
  have Bc:Bx w1 (w.heap.size) 37 #[.bool gx,.slice ax nx cx,.slice Ax Nx Cx]:=by rw[hW];exact ((Bx.new' _ _ _ _ (by first|rfl|(simp;done))).alloc _)
  have Bd:Bx w1 (w.heap.size + 1) 37 #[.bool gy,.slice ay ny cy,.slice Ay Ny Cy]:=by rw[hW];exact (Bx.new' _ _ _ _ (by first|rfl|(simp;done)))
  replace hs:=Be
  clear Be
  have B1:=Bc
  clear Bc
  have B0:=Bd
  clear Bd
  revert B5;revert B3;revert B4;revert B2;revert hy;revert hx;refine ke hk ?_;intro hx hy B2 B4 B3 B5
  clear hW hk Bf
  have Bi:=B0.lt
  have hb:=de w1
  revert B1 B0 hx hy B2 B4 B3 B5;refine mS hs hb ?_;clear hs hb;intro hs B1 B0 hx hy B2 B4 B3 B5
  refine B1.k3 fun B6 B7 B8=>?_
  refine B0.k3 fun B9 Ba Bb=>?_
  go_region_held3 (fun w'=>w'.cell? ⟨w.heap.size,0,none⟩=some (.bool gx)∧w'.cell? ⟨w.heap.size,1,none⟩=some (.slice ax nx cx)∧w'.cell? ⟨w.heap.size,2,none⟩=some (.slice Ax Nx Cx)∧w'.cell? ⟨w.heap.size + 1,0,none⟩=some (.bool gy)∧w'.cell? ⟨w.heap.size + 1,1,none⟩=some (.slice ay ny cy)∧w'.cell? ⟨w.heap.size + 1,2,none⟩=some (.slice Ay Ny Cy))
   (first|exact⟨B6,B7,B8,B9,Ba,Bb⟩|exact⟨dh B6 _,dh B7 _,dh B8 _,dh B9 _,dh Ba _,dh Bb _⟩|go_keep)
   (first
    | (go_at_call 11;(with_reducible refine (jb _ x _ hx).mono ?_);rintro e w2 ⟨rfl,hb⟩;replace hs:=ar hs hb;replace B1:=B1.mono hb;replace B0:=B0.mono hb;replace hx:=hx.mono hb;replace hy:=hy.mono hb;replace B2:=B2.mono hb;replace B4:=B4.mono hb;replace B3:=B3.mono hb;replace B5:=B5.mono hb;replace B6:=ah B6 hb;replace B7:=ah B7 hb;replace B8:=ah B8 hb;replace B9:=ah B9 hb;replace Ba:=ah Ba hb;replace Bb:=ah Bb hb;clear hb;rw[HX.out])
    | (go_at_call 11;(with_reducible refine (jb _ y _ hy).mono ?_);rintro e w3 ⟨rfl,hb⟩;replace hs:=ar hs hb;replace B1:=B1.mono hb;replace B0:=B0.mono hb;replace hx:=hx.mono hb;replace hy:=hy.mono hb;replace B2:=B2.mono hb;replace B4:=B4.mono hb;replace B3:=B3.mono hb;replace B5:=B5.mono hb;replace B6:=ah B6 hb;replace B7:=ah B7 hb;replace B8:=ah B8 hb;replace B9:=ah B9 hb;replace Ba:=ah Ba hb;replace Bb:=ah Bb hb;clear hb;rw[HY.out]))
  clear B6 B7 B8 B9 Ba Bb
  go_wp2
  refine Code.abs ?_
  intro w4 hW
  have Bf:=hs.size
  have lx:=B1.lt
  have ly:=B0.lt
  have Be:Below w.heap.size w w4:=by rw[hW];exact hs
  have hk:aw w3 w4:=by rw[hW];exact (aw.refl _)
  have Bc:Bx w4 (w.heap.size) 37 #[.bool gx,.slice ax nx cx,.slice Ax Nx Cx]:=by rw[hW];exact B1
  have Bd:Bx w4 (w.heap.size + 1) 37 #[.bool gy,.slice ay ny cy,.slice Ay Ny Cy]:=by rw[hW];exact B0
  replace hs:=Be
  clear Be
  replace B1:=Bc
  clear Bc
  replace B0:=Bd
  clear Bd
  revert hx hy B2 B4 B3 B5;refine ke hk ?_;intro hx hy B2 B4 B3 B5
  clear hW hk Bf lx ly
  obtain⟨hm1,hm2⟩:=HM.out
  have hb:=de w4
  revert B1 B0 hx hy B2 B4 B3 B5;refine mS hs hb ?_;clear hs hb;intro hs B1 B0 hx hy B2 B4 B3 B5
  refine B1.k3 fun B6 B7 B8=>?_
  refine B0.k3 fun B9 Ba Bb=>?_
  go_region_held3 (fun w'=>w'.cell? ⟨w.heap.size,0,none⟩=some (.bool gx)∧w'.cell? ⟨w.heap.size,1,none⟩=some (.slice ax nx cx)∧w'.cell? ⟨w.heap.size,2,none⟩=some (.slice Ax Nx Cx)∧w'.cell? ⟨w.heap.size + 1,0,none⟩=some (.bool gy)∧w'.cell? ⟨w.heap.size + 1,1,none⟩=some (.slice ay ny cy)∧w'.cell? ⟨w.heap.size + 1,2,none⟩=some (.slice Ay Ny Cy))
   (first|exact⟨B6,B7,B8,B9,Ba,Bb⟩|exact⟨dh B6 _,dh B7 _,dh B8 _,dh B9 _,dh Ba _,dh Bb _⟩|go_keep)
   (first
    | (go_at_call 48;(with_reducible refine (gz _ _ _ hdy B5).mono ?_);rintro e w5 ⟨_,rfl,hu,hb⟩;obtain⟨ahu,nhu,chu,rfl⟩:=hu.shape;replace hs:=ar hs hb;replace B1:=B1.mono hb;replace B0:=B0.mono hb;replace hx:=hx.mono hb;replace hy:=hy.mono hb;replace B2:=B2.mono hb;replace B4:=B4.mono hb;replace B3:=B3.mono hb;replace B5:=B5.mono hb;replace B6:=ah B6 hb;replace B7:=ah B7 hb;replace B8:=ah B8 hb;replace B9:=ah B9 hb;replace Ba:=ah Ba hb;replace Bb:=ah Bb hb;clear hb)
    | (go_at_call 47;(with_reducible refine (kj B2 hu sx1 sy2 Bm Bm).mono ?_);rintro e w6 ⟨_,rfl,hA,hb⟩;obtain⟨ahA,nhA,chA,rfl⟩:=hA.shape;replace hs:=ar hs hb;replace B1:=B1.mono hb;replace B0:=B0.mono hb;replace hx:=hx.mono hb;replace hy:=hy.mono hb;replace B2:=B2.mono hb;replace B4:=B4.mono hb;replace B3:=B3.mono hb;replace B5:=B5.mono hb;replace hu:=hu.mono hb;replace B6:=ah B6 hb;replace B7:=ah B7 hb;replace B8:=ah B8 hb;replace B9:=ah B9 hb;replace Ba:=ah Ba hb;replace Bb:=ah Bb hb;clear hb)
    | (go_at_call 48;(with_reducible refine (gz _ _ _ hdx B4).mono ?_);rintro e w7 ⟨_,rfl,hv,hb⟩;obtain⟨ahv,nhv,chv,rfl⟩:=hv.shape;replace hs:=ar hs hb;replace B1:=B1.mono hb;replace B0:=B0.mono hb;replace hx:=hx.mono hb;replace hy:=hy.mono hb;replace B2:=B2.mono hb;replace B4:=B4.mono hb;replace B3:=B3.mono hb;replace B5:=B5.mono hb;replace hu:=hu.mono hb;replace hA:=hA.mono hb;replace B6:=ah B6 hb;replace B7:=ah B7 hb;replace B8:=ah B8 hb;replace B9:=ah B9 hb;replace Ba:=ah Ba hb;replace Bb:=ah Bb hb;clear hb)
    | (go_at_call 47;(with_reducible refine (kj B3 hv sy1 sx2 Bm Bm).mono ?_);rintro e w8 ⟨_,rfl,hB,hb⟩;obtain⟨ahB,nhB,chB,rfl⟩:=hB.shape;replace hs:=ar hs hb;replace B1:=B1.mono hb;replace B0:=B0.mono hb;replace hx:=hx.mono hb;replace hy:=hy.mono hb;replace B2:=B2.mono hb;replace B4:=B4.mono hb;replace B3:=B3.mono hb;replace B5:=B5.mono hb;replace hu:=hu.mono hb;replace hA:=hA.mono hb;replace hv:=hv.mono hb;replace B6:=ah B6 hb;replace B7:=ah B7 hb;replace B8:=ah B8 hb;replace B9:=ah B9 hb;replace Ba:=ah Ba hb;replace Bb:=ah Bb hb;clear hb)
    | (go_at_call 49;(with_reducible refine (ur hA hB).mono ?_);rintro e w9 ⟨rfl,hb⟩;replace hs:=ar hs hb;replace B1:=B1.mono hb;replace B0:=B0.mono hb;replace hx:=hx.mono hb;replace hy:=hy.mono hb;replace B2:=B2.mono hb;replace B4:=B4.mono hb;replace B3:=B3.mono hb;replace B5:=B5.mono hb;replace hu:=hu.mono hb;replace hA:=hA.mono hb;replace hv:=hv.mono hb;replace hB:=hB.mono hb;replace B6:=ah B6 hb;replace B7:=ah B7 hb;replace B8:=ah B8 hb;replace B9:=ah B9 hb;replace Ba:=ah Ba hb;replace Bb:=ah Bb hb;clear hb;rw[HO.out])
    | (go_at_call 11;(with_reducible refine (jb _ x _ hx).mono ?_);rintro e w10 ⟨rfl,hb⟩;replace hs:=ar hs hb;replace B1:=B1.mono hb;replace B0:=B0.mono hb;replace hx:=hx.mono hb;replace hy:=hy.mono hb;replace B2:=B2.mono hb;replace B4:=B4.mono hb;replace B3:=B3.mono hb;replace B5:=B5.mono hb;replace hu:=hu.mono hb;replace hA:=hA.mono hb;replace hv:=hv.mono hb;replace hB:=hB.mono hb;replace B6:=ah B6 hb;replace B7:=ah B7 hb;replace B8:=ah B8 hb;replace B9:=ah B9 hb;replace Ba:=ah Ba hb;replace Bb:=ah Bb hb;clear hb;rw[HX.out]))
  clear B6 B7 B8 B9 Ba Bb
  go_wp2
  go_ret
  exact⟨by first|rfl|(rw[hm1];done)|(rw[hm2];done),hs⟩
 have hne:(X == Y)=false:=by rw[beq_eq_false_iff_ne];exact h1
 have hne2:(X != Y)=true:=by rw[bne_iff_ne];exact h1
 rw[if_neg h1] at hc
 clear h1
 by_cases h2:X < Y
 ·rw[if_pos h2] at hc
  subst hc
  go_enter Tryz.func12,Tryz.ntmps12
  go_wp2_with fail
  refine Code.abs ?_
  intro w1 hW
  have Bf:=hs.size
  have Be:Below w.heap.size w w1:=by rw[hW];exact (Below.alloc (Below.alloc hs (by first|exact hs.size|(have:=hs.size;simp;done)|(have:=hs.size;simp;omega)) _) (by first|exact hs.size|(have:=hs.size;simp;done)|(have:=hs.size;simp;omega)) _)
  have hk:aw w w1:=by rw[hW];exact (((aw.refl _).alloc _).alloc _)
  have Bc:Bx w1 (w.heap.size) 37 #[.bool gx,.slice ax nx cx,.slice Ax Nx Cx]:=by rw[hW];exact ((Bx.new' _ _ _ _ (by first|rfl|(simp;done))).alloc _)
  have Bd:Bx w1 (w.heap.size + 1) 37 #[.bool gy,.slice ay ny cy,.slice Ay Ny Cy]:=by rw[hW];exact (Bx.new' _ _ _ _ (by first|rfl|(simp;done)))
  replace hs:=Be
  clear Be
  have B1:=Bc
  clear Bc
  have B0:=Bd
  clear Bd
  revert B5;revert B3;revert B4;revert B2;revert hy;revert hx;refine ke hk ?_;intro hx hy B2 B4 B3 B5
  clear hW hk Bf
  have Bi:=B0.lt
  have hb:=de w1
  revert B1 B0 hx hy B2 B4 B3 B5;refine mS hs hb ?_;clear hs hb;intro hs B1 B0 hx hy B2 B4 B3 B5
  refine B1.k3 fun B6 B7 B8=>?_
  refine B0.k3 fun B9 Ba Bb=>?_
  go_region_held3 (fun w'=>w'.cell? ⟨w.heap.size,0,none⟩=some (.bool gx)∧w'.cell? ⟨w.heap.size,1,none⟩=some (.slice ax nx cx)∧w'.cell? ⟨w.heap.size,2,none⟩=some (.slice Ax Nx Cx)∧w'.cell? ⟨w.heap.size + 1,0,none⟩=some (.bool gy)∧w'.cell? ⟨w.heap.size + 1,1,none⟩=some (.slice ay ny cy)∧w'.cell? ⟨w.heap.size + 1,2,none⟩=some (.slice Ay Ny Cy))
   (first|exact⟨B6,B7,B8,B9,Ba,Bb⟩|exact⟨dh B6 _,dh B7 _,dh B8 _,dh B9 _,dh Ba _,dh Bb _⟩|go_keep)
   (first
    | (go_at_call 11;(with_reducible refine (jb _ x _ hx).mono ?_);rintro e w2 ⟨rfl,hb⟩;replace hs:=ar hs hb;replace B1:=B1.mono hb;replace B0:=B0.mono hb;replace hx:=hx.mono hb;replace hy:=hy.mono hb;replace B2:=B2.mono hb;replace B4:=B4.mono hb;replace B3:=B3.mono hb;replace B5:=B5.mono hb;replace B6:=ah B6 hb;replace B7:=ah B7 hb;replace B8:=ah B8 hb;replace B9:=ah B9 hb;replace Ba:=ah Ba hb;replace Bb:=ah Bb hb;clear hb;rw[HX.out])
    | (go_at_call 11;(with_reducible refine (jb _ y _ hy).mono ?_);rintro e w3 ⟨rfl,hb⟩;replace hs:=ar hs hb;replace B1:=B1.mono hb;replace B0:=B0.mono hb;replace hx:=hx.mono hb;replace hy:=hy.mono hb;replace B2:=B2.mono hb;replace B4:=B4.mono hb;replace B3:=B3.mono hb;replace B5:=B5.mono hb;replace B6:=ah B6 hb;replace B7:=ah B7 hb;replace B8:=ah B8 hb;replace B9:=ah B9 hb;replace Ba:=ah Ba hb;replace Bb:=ah Bb hb;clear hb;rw[HY.out]))
  clear B6 B7 B8 B9 Ba Bb
  go_wp2
  go_ret
  exact⟨rfl,hs⟩
 rw[if_neg h2] at hc
 subst hc
 go_enter Tryz.func12,Tryz.ntmps12
 go_wp2_with fail
 refine Code.abs ?_
 intro w1 hW
 have Bf:=hs.size
 have Be:Below w.heap.size w w1:=by rw[hW];exact (Below.alloc (Below.alloc hs (by first|exact hs.size|(have:=hs.size;simp;done)|(have:=hs.size;simp;omega)) _) (by first|exact hs.size|(have:=hs.size;simp;done)|(have:=hs.size;simp;omega)) _)
 have hk:aw w w1:=by rw[hW];exact (((aw.refl _).alloc _).alloc _)
 have Bc:Bx w1 (w.heap.size) 37 #[.bool gx,.slice ax nx cx,.slice Ax Nx Cx]:=by rw[hW];exact ((Bx.new' _ _ _ _ (by first|rfl|(simp;done))).alloc _)
 have Bd:Bx w1 (w.heap.size + 1) 37 #[.bool gy,.slice ay ny cy,.slice Ay Ny Cy]:=by rw[hW];exact (Bx.new' _ _ _ _ (by first|rfl|(simp;done)))
 replace hs:=Be
 clear Be
 have B1:=Bc
 clear Bc
 have B0:=Bd
 clear Bd
 revert B5;revert B3;revert B4;revert B2;revert hy;revert hx;refine ke hk ?_;intro hx hy B2 B4 B3 B5
 clear hW hk Bf
 have Bi:=B0.lt
 have hb:=de w1
 revert B1 B0 hx hy B2 B4 B3 B5;refine mS hs hb ?_;clear hs hb;intro hs B1 B0 hx hy B2 B4 B3 B5
 refine B1.k3 fun B6 B7 B8=>?_
 refine B0.k3 fun B9 Ba Bb=>?_
 go_region_held3 (fun w'=>w'.cell? ⟨w.heap.size,0,none⟩=some (.bool gx)∧w'.cell? ⟨w.heap.size,1,none⟩=some (.slice ax nx cx)∧w'.cell? ⟨w.heap.size,2,none⟩=some (.slice Ax Nx Cx)∧w'.cell? ⟨w.heap.size + 1,0,none⟩=some (.bool gy)∧w'.cell? ⟨w.heap.size + 1,1,none⟩=some (.slice ay ny cy)∧w'.cell? ⟨w.heap.size + 1,2,none⟩=some (.slice Ay Ny Cy))
  (first|exact⟨B6,B7,B8,B9,Ba,Bb⟩|exact⟨dh B6 _,dh B7 _,dh B8 _,dh B9 _,dh Ba _,dh Bb _⟩|go_keep)
  (first
   | (go_at_call 11;(with_reducible refine (jb _ x _ hx).mono ?_);rintro e w2 ⟨rfl,hb⟩;replace hs:=ar hs hb;replace B1:=B1.mono hb;replace B0:=B0.mono hb;replace hx:=hx.mono hb;replace hy:=hy.mono hb;replace B2:=B2.mono hb;replace B4:=B4.mono hb;replace B3:=B3.mono hb;replace B5:=B5.mono hb;replace B6:=ah B6 hb;replace B7:=ah B7 hb;replace B8:=ah B8 hb;replace B9:=ah B9 hb;replace Ba:=ah Ba hb;replace Bb:=ah Bb hb;clear hb;rw[HX.out])
   | (go_at_call 11;(with_reducible refine (jb _ y _ hy).mono ?_);rintro e w3 ⟨rfl,hb⟩;replace hs:=ar hs hb;replace B1:=B1.mono hb;replace B0:=B0.mono hb;replace hx:=hx.mono hb;replace hy:=hy.mono hb;replace B2:=B2.mono hb;replace B4:=B4.mono hb;replace B3:=B3.mono hb;replace B5:=B5.mono hb;replace B6:=ah B6 hb;replace B7:=ah B7 hb;replace B8:=ah B8 hb;replace B9:=ah B9 hb;replace Ba:=ah Ba hb;replace Bb:=ah Bb hb;clear hb;rw[HY.out]))
 clear B6 B7 B8 B9 Ba Bb
 go_wp2
 go_ret
 exact⟨rfl,hs⟩
end Go.Proofs.YtidmjdmmpajooaaGreat
