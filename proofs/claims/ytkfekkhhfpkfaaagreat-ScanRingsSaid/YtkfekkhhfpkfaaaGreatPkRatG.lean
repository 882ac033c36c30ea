/-
  The contracts of the program's fractions, fourth part: Sub, Same, Cmp, Text.
-/
import Derived.Test.YtkfekkhhfpkfaaaGreatRatP3G
set_option linter.unusedSimpArgs false
set_option linter.unusedVariables false
set_option maxRecDepth 100000
set_option maxHeartbeats 4000000
namespace Go.Proofs.YtkfekkhhfpkfaaaGreat
open Go.RowKit Dg
attribute [local go_sem ↓] Go.wp_at_zero Go.wp_at_succ
theorem sgQ_sub (x y : Rat) : sgQ (x - y) = if x < y then -1 else if x = y then 0 else 1 := by
 have h1 : (x - y).num < 0 ↔ x < y := by
  rw [← Int.not_le, Rat.num_nonneg]
  grind
 have h2 : (x - y).num = 0 ↔ x = y := by
  rw [Rat.num_eq_zero]
  grind
 unfold sgQ
 simp only [h1, h2]
theorem cmp_core (a b : Int) (P Q : Nat) (p1 : a ≠ 0 → 0 < P) (p2 : b ≠ 0 → 0 < Q) (p3 : a = 0 → P = 0) (p4 : b = 0 → Q = 0) :
  (if (if a < 0 then -(P : Int) else P) < (if b < 0 then -(Q : Int) else Q) then (-1 : Int) else if (if a < 0 then -(P : Int) else P) = (if b < 0 then -(Q : Int) else Q) then 0 else 1) =
  if (if a < 0 then (-1 : Int) else if a = 0 then 0 else 1) = (if b < 0 then (-1 : Int) else if b = 0 then 0 else 1) then (if P < Q then (-1 : Int) else if Q < P then 1 else 0) * (if a < 0 then (-1 : Int) else if a = 0 then 0 else 1)
  else if (if a < 0 then (-1 : Int) else if a = 0 then 0 else 1) < (if b < 0 then (-1 : Int) else if b = 0 then 0 else 1) then -1 else 1 := by
 have q1 : a < 0 → ¬ 0 < a := by omega
 have q2 : 0 < a → ¬ a < 0 := by omega
 have q3 : 0 < a → ¬ a = 0 := by omega
 have q4 : a < 0 → ¬ a = 0 := by omega
 have r2 : 0 < b → ¬ b < 0 := by omega
 have r3 : 0 < b → ¬ b = 0 := by omega
 have r4 : b < 0 → ¬ b = 0 := by omega
 rcases Int.lt_trichotomy a 0 with h | h | h <;> rcases Int.lt_trichotomy b 0 with h' | h' | h' <;> (try have h1 := q2 h) <;> (try have h2 := q3 h) <;> (try have h2 := q4 h) <;> (try have h3 := r2 h') <;> (try have h4 := r3 h') <;> (try have h4 := r4 h') <;> clear q1 q2 q3 q4 r2 r3 r4 <;> (first | rw [if_pos h] | skip) <;> grind
theorem cmp_eq (x y : Rat) : sgQ (x - y) = if sgQ x = sgQ y then ordN (x.num.natAbs * y.den) (y.num.natAbs * x.den) * sgQ x else if sgQ x < sgQ y then -1 else 1 := by
 rw [sgQ_sub]
 have hlt := Rat.lt_iff x y
 have heq := @Rat.eq_iff_mul_eq_mul x y
 have dx := x.den_pos
 have dy := y.den_pos
 have e1 : ((x.num.natAbs * y.den : Nat) : Int) = x.num.natAbs * y.den := by simp
 have e2 : ((y.num.natAbs * x.den : Nat) : Int) = y.num.natAbs * x.den := by simp
 have s1 : x.num * y.den = if x.num < 0 then -((x.num.natAbs * y.den : Nat) : Int) else ((x.num.natAbs * y.den : Nat) : Int) := by
  rw [e1]; split
  ·rw [show ((x.num.natAbs : Int)) = -x.num from by omega]; simp [Int.neg_mul]
  ·rw [show ((x.num.natAbs : Int)) = x.num from by omega]
 have s2 : y.num * x.den = if y.num < 0 then -((y.num.natAbs * x.den : Nat) : Int) else ((y.num.natAbs * x.den : Nat) : Int) := by
  rw [e2]; split
  ·rw [show ((y.num.natAbs : Int)) = -y.num from by omega]; simp [Int.neg_mul]
  ·rw [show ((y.num.natAbs : Int)) = y.num from by omega]
 rw [s1, s2] at hlt heq
 have := cmp_core x.num y.num (x.num.natAbs * y.den) (y.num.natAbs * x.den) (fun h => Nat.mul_pos (by omega) dy) (fun h => Nat.mul_pos (by omega) dx) (fun h => by rw [h]; simp) (fun h => by rw [h]; simp)
 unfold sgQ ordN
 rw [← this]
 simp only [hlt, heq]
theorem sgQ_bound (x : Rat) : -1 ≤ sgQ x ∧ sgQ x ≤ 1 := by unfold sgQ; split <;> (try split) <;> omega
theorem ordN_bound (a b : Nat) : -1 ≤ ordN a b ∧ ordN a b ≤ 1 := by unfold ordN; split <;> (try split) <;> omega
theorem mul_small {a b : Int} (ha : -1 ≤ a ∧ a ≤ 1) (hb : -1 ≤ b ∧ b ≤ 1) : IntKind.i64.wrap (a * b) = a * b ∧ wrap64 (a * b) = a * b := by
 have h1 : a = -1 ∨ a = 0 ∨ a = 1 := by omega
 have h2 : b = -1 ∨ b = 0 ∨ b = 1 := by omega
 have h : -1 ≤ a * b ∧ a * b ≤ 1 := by rcases h1 with rfl | rfl | rfl <;> rcases h2 with rfl | rfl | rfl <;> decide
 generalize a * b = c at *
 exact ⟨IntWalk.i64_in _ (by omega), IntWalk.wrap64_in _ ⟨by omega, by omega⟩⟩
theorem p_Sub_calls (vx vy : Value) (x y : Rat) (K : Nat) (w : World) (hx : PV w vx x) (hy : PV w vy y) (hK : K ≤ 268435456) (sx : SzP K x) (sy : SzP K y) : Calls Tryz.prog 57 #[vx, vy] w (RetP w (x - y)) := by
 obtain ⟨gx, ax, nx, cx, Ax, Nx, Cx, rfl⟩ := hx.shape
 have egx := hx.sign
 have EGx := Lib.hid egx
 obtain ⟨gy, ay, ny, cy, Ay, Ny, Cy, rfl⟩ := hy.shape
 have egy := hy.sign
 have EGy := Lib.hid egy
 clear egx
 clear egy
 have hs := Below.refl w.heap.size w
 go_enter Tryz.func57, Tryz.ntmps57
 go_wp2_with fail
 refine Calls.abs ?_
 intro w1 hW
 have hsz := hs.size
 have hs1 : Below w.heap.size w w1 := by rw [hW]; exact (Below.alloc (Below.alloc (Below.alloc hs (by first | exact hs.size | (have := hs.size; simp; done) | (have := hs.size; simp; omega)) _) (by first | exact hs.size | (have := hs.size; simp; done) | (have := hs.size; simp; omega)) _) (by first | exact hs.size | (have := hs.size; simp; done) | (have := hs.size; simp; omega)) _)
 have hk : KeepD w w1 := by rw [hW]; exact ((((KeepD.refl _).alloc _).alloc _).alloc _)
 have Bl1x : Bx w1 (w.heap.size) 32 #[.bool gx, .slice ax nx cx, .slice Ax Nx Cx] := by rw [hW]; exact (((Bx.new' _ _ _ _ (by first | rfl | (simp; done))).alloc _).alloc _)
 have Bl1y : Bx w1 (w.heap.size + 1) 32 #[.bool gy, .slice ay ny cy, .slice Ay Ny Cy] := by rw [hW]; exact ((Bx.new' _ _ _ _ (by first | rfl | (simp; done))).alloc _)
 have Bl1z : Bx w1 (w.heap.size + 1 + 1) 32 #[.bool false, .slice none 0 0, .slice none 0 0] := by rw [hW]; exact (Bx.new' _ _ _ _ (by first | rfl | (simp; done)))
 replace hs := hs1
 clear hs1
 have Blx := Bl1x
 clear Bl1x
 have Bly := Bl1y
 clear Bl1y
 have Blz := Bl1z
 clear Bl1z
 replace hx := hx.keep hk
 replace hy := hy.keep hk
 clear hW hk hsz
 have hz_w1 := Blz.lt
 refine (p_less_calls _ _ x y K _ hx hy hK sx sy).mono ?_
 rintro e w2 ⟨_, rfl, hQ, hb⟩
 obtain ⟨shQ, ahQ, nhQ, chQ, AhQ, NhQ, ChQ, rfl⟩ := hQ.shape
 replace hs := bStep hs hb
 replace Blx := Blx.mono hb
 replace Bly := Bly.mono hb
 replace Blz := Blz.mono hb
 replace hx := hx.mono hb
 replace hy := hy.mono hb
 clear hb
 have B6 := Blz.a0
 have B7 := Blz.a1
 have B8 := Blz.a2
 have fz := Blz.free
 have Lz := Blz.lt
 go_wp2
 refine bodyPost.abs ?_
 intro w3 hW
 have hsz := hs.size
 have lx := Blx.lt
 have ly := Bly.lt
 have lz := Blz.lt
 have hs1 : Below w.heap.size w w3 := by rw [hW]; exact (Below.setCell (Below.setCell (Below.setCell hs (by first | exact Nat.le_refl _ | omega | (have := hs.size; simp; done) | (have := hs.size; simp; omega)) _) (by first | exact Nat.le_refl _ | omega | (have := hs.size; simp; done) | (have := hs.size; simp; omega)) _) (by first | exact Nat.le_refl _ | omega | (have := hs.size; simp; done) | (have := hs.size; simp; omega)) _)
 have hk : KeepD w2 w3 := by rw [hW]; exact (KeepD.set (KeepD.set (KeepD.set (KeepD.refl _) Blz.ty (by decide) _ _) (TyB.store Blz.ty _ _) (by decide) _ _) (TyB.store (TyB.store Blz.ty _ _) _ _) (by decide) _ _)
 have Bl1x : Bx w3 (w.heap.size) 32 #[.bool gx, .slice ax nx cx, .slice Ax Nx Cx] := by rw [hW]; exact (Bx.far (Bx.far (Bx.far Blx (by first | omega | (simp; done) | (simp; omega)) _) (by first | omega | (simp; done) | (simp; omega)) _) (by first | omega | (simp; done) | (simp; omega)) _)
 have Bl1y : Bx w3 (w.heap.size + 1) 32 #[.bool gy, .slice ay ny cy, .slice Ay Ny Cy] := by rw [hW]; exact (Bx.far (Bx.far (Bx.far Bly (by first | omega | (simp; done) | (simp; omega)) _) (by first | omega | (simp; done) | (simp; omega)) _) (by first | omega | (simp; done) | (simp; omega)) _)
 have Bl1z : Bx w3 (w.heap.size + 1 + 1) 32 #[.bool shQ, .slice ahQ nhQ chQ, .slice AhQ NhQ ChQ] := by rw [hW]; exact (Bx.set (Bx.set (Bx.set Blz 0 _ rfl) 1 _ rfl) 2 _ rfl)
 replace hs := hs1
 clear hs1
 replace Blx := Bl1x
 clear Bl1x
 replace Bly := Bl1y
 clear Bl1y
 replace Blz := Bl1z
 clear Bl1z
 replace hx := hx.keep hk
 replace hy := hy.keep hk
 replace hQ := hQ.keep hk
 clear hW hk hsz lx ly lz
 exact ret_P rfl rfl rfl Blz hQ hs
theorem p_Cmp_calls (vx vy : Value) (x y : Rat) (K : Nat) (w : World) (hx : PV w vx x) (hy : PV w vy y) (hK : K ≤ 268435456) (sx : SzP K x) (sy : SzP K y) : Calls Tryz.prog 18 #[vx, vy] w (RetV w (.int .i64 (sgQ (x - y)))) := by
 obtain ⟨gx, ax, nx, cx, Ax, Nx, Cx, rfl⟩ := hx.shape
 have egx := hx.sign
 have EGx := Lib.hid egx
 have hxn := hx.parts.2.1
 have hxd := hx.parts.2.2
 obtain ⟨gy, ay, ny, cy, Ay, Ny, Cy, rfl⟩ := hy.shape
 have egy := hy.sign
 have EGy := Lib.hid egy
 have hyn := hy.parts.2.1
 have hyd := hy.parts.2.2
 have sx1 := sx.1
 have sx2 := sx.2
 have sy1 := sy.1
 have sy2 := sy.2
 have hdx := x.den_pos
 have hdy := y.den_pos
 have hK' : K ≤ 1099511627776 := by omega
 have hc := cmp_eq x y
 have bx := sgQ_bound x
 have bY := sgQ_bound y
 have bo := ordN_bound (x.num.natAbs * y.den) (y.num.natAbs * x.den)
 generalize hX : sgQ x = X at *
 generalize hY : sgQ y = Y at *
 generalize hO : ordN (x.num.natAbs * y.den) (y.num.natAbs * x.den) = O at *
 have hm := mul_small bo bx
 have HX := Lib.hid hX
 have HY := Lib.hid hY
 have HO := Lib.hid hO
 have HM := Lib.hid hm
 generalize sgQ (x - y) = D at *
 clear hX hY hO hm bo
 obtain ⟨bx1, bx2⟩ := bx
 obtain ⟨by1, by2⟩ := bY
 clear egx
 clear egy
 have hs := Below.refl w.heap.size w
 by_cases h1 : X = Y
 ·rw [if_pos h1] at hc
  subst h1
  subst hc
  go_enter Tryz.func18, Tryz.ntmps18
  go_wp2_with fail
  refine Code.abs ?_
  intro w1 hW
  have hsz := hs.size
  have hs1 : Below w.heap.size w w1 := by rw [hW]; exact (Below.alloc (Below.alloc hs (by first | exact hs.size | (have := hs.size; simp; done) | (have := hs.size; simp; omega)) _) (by first | exact hs.size | (have := hs.size; simp; done) | (have := hs.size; simp; omega)) _)
  have hk : KeepD w w1 := by rw [hW]; exact (((KeepD.refl _).alloc _).alloc _)
  have Bl1x : Bx w1 (w.heap.size) 32 #[.bool gx, .slice ax nx cx, .slice Ax Nx Cx] := by rw [hW]; exact ((Bx.new' _ _ _ _ (by first | rfl | (simp; done))).alloc _)
  have Bl1y : Bx w1 (w.heap.size + 1) 32 #[.bool gy, .slice ay ny cy, .slice Ay Ny Cy] := by rw [hW]; exact (Bx.new' _ _ _ _ (by first | rfl | (simp; done)))
  replace hs := hs1
  clear hs1
  have Blx := Bl1x
  clear Bl1x
  have Bly := Bl1y
  clear Bl1y
  replace hx := hx.keep hk
  replace hy := hy.keep hk
  replace hxn := hxn.keep hk
  replace hxd := hxd.keep hk
  replace hyn := hyn.keep hk
  replace hyd := hyd.keep hk
  clear hW hk hsz
  have hz_w1 := Bly.lt
  have hb := bDrew w1
  replace hs := bStep hs hb
  replace Blx := Blx.mono hb
  replace Bly := Bly.mono hb
  replace hx := hx.mono hb
  replace hy := hy.mono hb
  replace hxn := hxn.mono hb
  replace hxd := hxd.mono hb
  replace hyn := hyn.mono hb
  replace hyd := hyd.mono hb
  clear hb
  have B0 := Blx.a0
  have B1 := Blx.a1
  have B2 := Blx.a2
  have B3 := Bly.a0
  have B4 := Bly.a1
  have B5 := Bly.a2
  go_region_held3 (fun w' => w'.cell? ⟨w.heap.size, 0, none⟩ = some (.bool gx) ∧ w'.cell? ⟨w.heap.size, 1, none⟩ = some (.slice ax nx cx) ∧ w'.cell? ⟨w.heap.size, 2, none⟩ = some (.slice Ax Nx Cx) ∧ w'.cell? ⟨w.heap.size + 1, 0, none⟩ = some (.bool gy) ∧ w'.cell? ⟨w.heap.size + 1, 1, none⟩ = some (.slice ay ny cy) ∧ w'.cell? ⟨w.heap.size + 1, 2, none⟩ = some (.slice Ay Ny Cy))
   (first | exact ⟨B0, B1, B2, B3, B4, B5⟩ | exact ⟨cellA B0 _, cellA B1 _, cellA B2 _, cellA B3 _, cellA B4 _, cellA B5 _⟩ | go_keep)
   (first
    | (go_at_call 79; (with_reducible refine (p_Sign_calls _ x _ hx).mono ?_); rintro e w2 ⟨rfl, hb⟩; replace hs := bStep hs hb; replace Blx := Blx.mono hb; replace Bly := Bly.mono hb; replace hx := hx.mono hb; replace hy := hy.mono hb; replace hxn := hxn.mono hb; replace hxd := hxd.mono hb; replace hyn := hyn.mono hb; replace hyd := hyd.mono hb; replace B0 := cellK B0 hb; replace B1 := cellK B1 hb; replace B2 := cellK B2 hb; replace B3 := cellK B3 hb; replace B4 := cellK B4 hb; replace B5 := cellK B5 hb; clear hb; rw [HX.out])
    | (go_at_call 79; (with_reducible refine (p_Sign_calls _ y _ hy).mono ?_); rintro e w3 ⟨rfl, hb⟩; replace hs := bStep hs hb; replace Blx := Blx.mono hb; replace Bly := Bly.mono hb; replace hx := hx.mono hb; replace hy := hy.mono hb; replace hxn := hxn.mono hb; replace hxd := hxd.mono hb; replace hyn := hyn.mono hb; replace hyd := hyd.mono hb; replace B0 := cellK B0 hb; replace B1 := cellK B1 hb; replace B2 := cellK B2 hb; replace B3 := cellK B3 hb; replace B4 := cellK B4 hb; replace B5 := cellK B5 hb; clear hb; rw [HY.out]))
  clear B0 B1 B2 B3 B4 B5
  go_wp2
  refine Code.abs ?_
  intro w4 hW
  have hsz := hs.size
  have lx := Blx.lt
  have ly := Bly.lt
  have hs1 : Below w.heap.size w w4 := by rw [hW]; exact hs
  have hk : KeepD w3 w4 := by rw [hW]; exact (KeepD.refl _)
  have Bl1x : Bx w4 (w.heap.size) 32 #[.bool gx, .slice ax nx cx, .slice Ax Nx Cx] := by rw [hW]; exact Blx
  have Bl1y : Bx w4 (w.heap.size + 1) 32 #[.bool gy, .slice ay ny cy, .slice Ay Ny Cy] := by rw [hW]; exact Bly
  replace hs := hs1
  clear hs1
  replace Blx := Bl1x
  clear Bl1x
  replace Bly := Bl1y
  clear Bl1y
  replace hx := hx.keep hk
  replace hy := hy.keep hk
  replace hxn := hxn.keep hk
  replace hxd := hxd.keep hk
  replace hyn := hyn.keep hk
  replace hyd := hyd.keep hk
  clear hW hk hsz lx ly
  obtain ⟨hm1, hm2⟩ := HM.out
  have hb := bDrew w4
  replace hs := bStep hs hb
  replace Blx := Blx.mono hb
  replace Bly := Bly.mono hb
  replace hx := hx.mono hb
  replace hy := hy.mono hb
  replace hxn := hxn.mono hb
  replace hxd := hxd.mono hb
  replace hyn := hyn.mono hb
  replace hyd := hyd.mono hb
  clear hb
  have B0 := Blx.a0
  have B1 := Blx.a1
  have B2 := Blx.a2
  have B3 := Bly.a0
  have B4 := Bly.a1
  have B5 := Bly.a2
  go_region_held3 (fun w' => w'.cell? ⟨w.heap.size, 0, none⟩ = some (.bool gx) ∧ w'.cell? ⟨w.heap.size, 1, none⟩ = some (.slice ax nx cx) ∧ w'.cell? ⟨w.heap.size, 2, none⟩ = some (.slice Ax Nx Cx) ∧ w'.cell? ⟨w.heap.size + 1, 0, none⟩ = some (.bool gy) ∧ w'.cell? ⟨w.heap.size + 1, 1, none⟩ = some (.slice ay ny cy) ∧ w'.cell? ⟨w.heap.size + 1, 2, none⟩ = some (.slice Ay Ny Cy))
   (first | exact ⟨B0, B1, B2, B3, B4, B5⟩ | exact ⟨cellA B0 _, cellA B1 _, cellA B2 _, cellA B3 _, cellA B4 _, cellA B5 _⟩ | go_keep)
   (first
    | (go_at_call 81; (with_reducible refine (p_under_calls _ _ _ hdy hyd).mono ?_); rintro e w5 ⟨_, rfl, hu, hb⟩; obtain ⟨ahu, nhu, chu, rfl⟩ := hu.shape; replace hs := bStep hs hb; replace Blx := Blx.mono hb; replace Bly := Bly.mono hb; replace hx := hx.mono hb; replace hy := hy.mono hb; replace hxn := hxn.mono hb; replace hxd := hxd.mono hb; replace hyn := hyn.mono hb; replace hyd := hyd.mono hb; replace B0 := cellK B0 hb; replace B1 := cellK B1 hb; replace B2 := cellK B2 hb; replace B3 := cellK B3 hb; replace B4 := cellK B4 hb; replace B5 := cellK B5 hb; clear hb)
    | (go_at_call 80; (with_reducible refine (ln_times hxn hu sx1 sy2 hK' hK').mono ?_); rintro e w6 ⟨_, rfl, hA, hb⟩; obtain ⟨ahA, nhA, chA, rfl⟩ := hA.shape; replace hs := bStep hs hb; replace Blx := Blx.mono hb; replace Bly := Bly.mono hb; replace hx := hx.mono hb; replace hy := hy.mono hb; replace hxn := hxn.mono hb; replace hxd := hxd.mono hb; replace hyn := hyn.mono hb; replace hyd := hyd.mono hb; replace hu := hu.mono hb; replace B0 := cellK B0 hb; replace B1 := cellK B1 hb; replace B2 := cellK B2 hb; replace B3 := cellK B3 hb; replace B4 := cellK B4 hb; replace B5 := cellK B5 hb; clear hb)
    | (go_at_call 81; (with_reducible refine (p_under_calls _ _ _ hdx hxd).mono ?_); rintro e w7 ⟨_, rfl, hv, hb⟩; obtain ⟨ahv, nhv, chv, rfl⟩ := hv.shape; replace hs := bStep hs hb; replace Blx := Blx.mono hb; replace Bly := Bly.mono hb; replace hx := hx.mono hb; replace hy := hy.mono hb; replace hxn := hxn.mono hb; replace hxd := hxd.mono hb; replace hyn := hyn.mono hb; replace hyd := hyd.mono hb; replace hu := hu.mono hb; replace hA := hA.mono hb; replace B0 := cellK B0 hb; replace B1 := cellK B1 hb; replace B2 := cellK B2 hb; replace B3 := cellK B3 hb; replace B4 := cellK B4 hb; replace B5 := cellK B5 hb; clear hb)
    | (go_at_call 80; (with_reducible refine (ln_times hyn hv sy1 sx2 hK' hK').mono ?_); rintro e w8 ⟨_, rfl, hB, hb⟩; obtain ⟨ahB, nhB, chB, rfl⟩ := hB.shape; replace hs := bStep hs hb; replace Blx := Blx.mono hb; replace Bly := Bly.mono hb; replace hx := hx.mono hb; replace hy := hy.mono hb; replace hxn := hxn.mono hb; replace hxd := hxd.mono hb; replace hyn := hyn.mono hb; replace hyd := hyd.mono hb; replace hu := hu.mono hb; replace hA := hA.mono hb; replace hv := hv.mono hb; replace B0 := cellK B0 hb; replace B1 := cellK B1 hb; replace B2 := cellK B2 hb; replace B3 := cellK B3 hb; replace B4 := cellK B4 hb; replace B5 := cellK B5 hb; clear hb)
    | (go_at_call 82; (with_reducible refine (ln_cmp hA hB).mono ?_); rintro e w9 ⟨rfl, hb⟩; replace hs := bStep hs hb; replace Blx := Blx.mono hb; replace Bly := Bly.mono hb; replace hx := hx.mono hb; replace hy := hy.mono hb; replace hxn := hxn.mono hb; replace hxd := hxd.mono hb; replace hyn := hyn.mono hb; replace hyd := hyd.mono hb; replace hu := hu.mono hb; replace hA := hA.mono hb; replace hv := hv.mono hb; replace hB := hB.mono hb; replace B0 := cellK B0 hb; replace B1 := cellK B1 hb; replace B2 := cellK B2 hb; replace B3 := cellK B3 hb; replace B4 := cellK B4 hb; replace B5 := cellK B5 hb; clear hb; rw [HO.out])
    | (go_at_call 79; (with_reducible refine (p_Sign_calls _ x _ hx).mono ?_); rintro e w10 ⟨rfl, hb⟩; replace hs := bStep hs hb; replace Blx := Blx.mono hb; replace Bly := Bly.mono hb; replace hx := hx.mono hb; replace hy := hy.mono hb; replace hxn := hxn.mono hb; replace hxd := hxd.mono hb; replace hyn := hyn.mono hb; replace hyd := hyd.mono hb; replace hu := hu.mono hb; replace hA := hA.mono hb; replace hv := hv.mono hb; replace hB := hB.mono hb; replace B0 := cellK B0 hb; replace B1 := cellK B1 hb; replace B2 := cellK B2 hb; replace B3 := cellK B3 hb; replace B4 := cellK B4 hb; replace B5 := cellK B5 hb; clear hb; rw [HX.out]))
  clear B0 B1 B2 B3 B4 B5
  go_wp2
  go_ret
  exact ⟨by first | rfl | (rw [hm1]; done) | (rw [hm2]; done), hs⟩
 ·have hne : (X == Y) = false := by rw [beq_eq_false_iff_ne]; exact h1
  have hne2 : (X != Y) = true := by rw [bne_iff_ne]; exact h1
  rw [if_neg h1] at hc
  clear h1
  by_cases h2 : X < Y
  ·rw [if_pos h2] at hc
   subst hc
   go_enter Tryz.func18, Tryz.ntmps18
   go_wp2_with fail
   refine Code.abs ?_
   intro w1 hW
   have hsz := hs.size
   have hs1 : Below w.heap.size w w1 := by rw [hW]; exact (Below.alloc (Below.alloc hs (by first | exact hs.size | (have := hs.size; simp; done) | (have := hs.size; simp; omega)) _) (by first | exact hs.size | (have := hs.size; simp; done) | (have := hs.size; simp; omega)) _)
   have hk : KeepD w w1 := by rw [hW]; exact (((KeepD.refl _).alloc _).alloc _)
   have Bl1x : Bx w1 (w.heap.size) 32 #[.bool gx, .slice ax nx cx, .slice Ax Nx Cx] := by rw [hW]; exact ((Bx.new' _ _ _ _ (by first | rfl | (simp; done))).alloc _)
   have Bl1y : Bx w1 (w.heap.size + 1) 32 #[.bool gy, .slice ay ny cy, .slice Ay Ny Cy] := by rw [hW]; exact (Bx.new' _ _ _ _ (by first | rfl | (simp; done)))
   replace hs := hs1
   clear hs1
   have Blx := Bl1x
   clear Bl1x
   have Bly := Bl1y
   clear Bl1y
   replace hx := hx.keep hk
   replace hy := hy.keep hk
   replace hxn := hxn.keep hk
   replace hxd := hxd.keep hk
   replace hyn := hyn.keep hk
   replace hyd := hyd.keep hk
   clear hW hk hsz
   have hz_w1 := Bly.lt
   have hb := bDrew w1
   replace hs := bStep hs hb
   replace Blx := Blx.mono hb
   replace Bly := Bly.mono hb
   replace hx := hx.mono hb
   replace hy := hy.mono hb
   replace hxn := hxn.mono hb
   replace hxd := hxd.mono hb
   replace hyn := hyn.mono hb
   replace hyd := hyd.mono hb
   clear hb
   have B0 := Blx.a0
   have B1 := Blx.a1
   have B2 := Blx.a2
   have B3 := Bly.a0
   have B4 := Bly.a1
   have B5 := Bly.a2
   go_region_held3 (fun w' => w'.cell? ⟨w.heap.size, 0, none⟩ = some (.bool gx) ∧ w'.cell? ⟨w.heap.size, 1, none⟩ = some (.slice ax nx cx) ∧ w'.cell? ⟨w.heap.size, 2, none⟩ = some (.slice Ax Nx Cx) ∧ w'.cell? ⟨w.heap.size + 1, 0, none⟩ = some (.bool gy) ∧ w'.cell? ⟨w.heap.size + 1, 1, none⟩ = some (.slice ay ny cy) ∧ w'.cell? ⟨w.heap.size + 1, 2, none⟩ = some (.slice Ay Ny Cy))
    (first | exact ⟨B0, B1, B2, B3, B4, B5⟩ | exact ⟨cellA B0 _, cellA B1 _, cellA B2 _, cellA B3 _, cellA B4 _, cellA B5 _⟩ | go_keep)
    (first
     | (go_at_call 79; (with_reducible refine (p_Sign_calls _ x _ hx).mono ?_); rintro e w2 ⟨rfl, hb⟩; replace hs := bStep hs hb; replace Blx := Blx.mono hb; replace Bly := Bly.mono hb; replace hx := hx.mono hb; replace hy := hy.mono hb; replace hxn := hxn.mono hb; replace hxd := hxd.mono hb; replace hyn := hyn.mono hb; replace hyd := hyd.mono hb; replace B0 := cellK B0 hb; replace B1 := cellK B1 hb; replace B2 := cellK B2 hb; replace B3 := cellK B3 hb; replace B4 := cellK B4 hb; replace B5 := cellK B5 hb; clear hb; rw [HX.out])
     | (go_at_call 79; (with_reducible refine (p_Sign_calls _ y _ hy).mono ?_); rintro e w3 ⟨rfl, hb⟩; replace hs := bStep hs hb; replace Blx := Blx.mono hb; replace Bly := Bly.mono hb; replace hx := hx.mono hb; replace hy := hy.mono hb; replace hxn := hxn.mono hb; replace hxd := hxd.mono hb; replace hyn := hyn.mono hb; replace hyd := hyd.mono hb; replace B0 := cellK B0 hb; replace B1 := cellK B1 hb; replace B2 := cellK B2 hb; replace B3 := cellK B3 hb; replace B4 := cellK B4 hb; replace B5 := cellK B5 hb; clear hb; rw [HY.out]))
   clear B0 B1 B2 B3 B4 B5
   go_wp2
   go_ret
   exact ⟨rfl, hs⟩
  ·rw [if_neg h2] at hc
   subst hc
   go_enter Tryz.func18, Tryz.ntmps18
   go_wp2_with fail
   refine Code.abs ?_
   intro w1 hW
   have hsz := hs.size
   have hs1 : Below w.heap.size w w1 := by rw [hW]; exact (Below.alloc (Below.alloc hs (by first | exact hs.size | (have := hs.size; simp; done) | (have := hs.size; simp; omega)) _) (by first | exact hs.size | (have := hs.size; simp; done) | (have := hs.size; simp; omega)) _)
   have hk : KeepD w w1 := by rw [hW]; exact (((KeepD.refl _).alloc _).alloc _)
   have Bl1x : Bx w1 (w.heap.size) 32 #[.bool gx, .slice ax nx cx, .slice Ax Nx Cx] := by rw [hW]; exact ((Bx.new' _ _ _ _ (by first | rfl | (simp; done))).alloc _)
   have Bl1y : Bx w1 (w.heap.size + 1) 32 #[.bool gy, .slice ay ny cy, .slice Ay Ny Cy] := by rw [hW]; exact (Bx.new' _ _ _ _ (by first | rfl | (simp; done)))
   replace hs := hs1
   clear hs1
   have Blx := Bl1x
   clear Bl1x
   have Bly := Bl1y
   clear Bl1y
   replace hx := hx.keep hk
   replace hy := hy.keep hk
   replace hxn := hxn.keep hk
   replace hxd := hxd.keep hk
   replace hyn := hyn.keep hk
   replace hyd := hyd.keep hk
   clear hW hk hsz
   have hz_w1 := Bly.lt
   have hb := bDrew w1
   replace hs := bStep hs hb
   replace Blx := Blx.mono hb
   replace Bly := Bly.mono hb
   replace hx := hx.mono hb
   replace hy := hy.mono hb
   replace hxn := hxn.mono hb
   replace hxd := hxd.mono hb
   replace hyn := hyn.mono hb
   replace hyd := hyd.mono hb
   clear hb
   have B0 := Blx.a0
   have B1 := Blx.a1
   have B2 := Blx.a2
   have B3 := Bly.a0
   have B4 := Bly.a1
   have B5 := Bly.a2
   go_region_held3 (fun w' => w'.cell? ⟨w.heap.size, 0, none⟩ = some (.bool gx) ∧ w'.cell? ⟨w.heap.size, 1, none⟩ = some (.slice ax nx cx) ∧ w'.cell? ⟨w.heap.size, 2, none⟩ = some (.slice Ax Nx Cx) ∧ w'.cell? ⟨w.heap.size + 1, 0, none⟩ = some (.bool gy) ∧ w'.cell? ⟨w.heap.size + 1, 1, none⟩ = some (.slice ay ny cy) ∧ w'.cell? ⟨w.heap.size + 1, 2, none⟩ = some (.slice Ay Ny Cy))
    (first | exact ⟨B0, B1, B2, B3, B4, B5⟩ | exact ⟨cellA B0 _, cellA B1 _, cellA B2 _, cellA B3 _, cellA B4 _, cellA B5 _⟩ | go_keep)
    (first
     | (go_at_call 79; (with_reducible refine (p_Sign_calls _ x _ hx).mono ?_); rintro e w2 ⟨rfl, hb⟩; replace hs := bStep hs hb; replace Blx := Blx.mono hb; replace Bly := Bly.mono hb; replace hx := hx.mono hb; replace hy := hy.mono hb; replace hxn := hxn.mono hb; replace hxd := hxd.mono hb; replace hyn := hyn.mono hb; replace hyd := hyd.mono hb; replace B0 := cellK B0 hb; replace B1 := cellK B1 hb; replace B2 := cellK B2 hb; replace B3 := cellK B3 hb; replace B4 := cellK B4 hb; replace B5 := cellK B5 hb; clear hb; rw [HX.out])
     | (go_at_call 79; (with_reducible refine (p_Sign_calls _ y _ hy).mono ?_); rintro e w3 ⟨rfl, hb⟩; replace hs := bStep hs hb; replace Blx := Blx.mono hb; replace Bly := Bly.mono hb; replace hx := hx.mono hb; replace hy := hy.mono hb; replace hxn := hxn.mono hb; replace hxd := hxd.mono hb; replace hyn := hyn.mono hb; replace hyd := hyd.mono hb; replace B0 := cellK B0 hb; replace B1 := cellK B1 hb; replace B2 := cellK B2 hb; replace B3 := cellK B3 hb; replace B4 := cellK B4 hb; replace B5 := cellK B5 hb; clear hb; rw [HY.out]))
   clear B0 B1 B2 B3 B4 B5
   go_wp2
   go_ret
   exact ⟨rfl, hs⟩
end Go.Proofs.YtkfekkhhfpkfaaaGreat
namespace Go.Proofs.YtkfekkhhfpkfaaaGreat
open Go.RowKit Dg
theorem decS_lenP {n K : Nat} (h : n < 18446744073709551616 ^ K) : (decS n).length ≤ 64 * K + 1 := by
 unfold decS
 split
 ·simp
 ·have h1 := dgs_length n
  have h2 : bl n ≤ 64 * K := bl_le_of_lt (by rwa [show (18446744073709551616 : Nat) = 2 ^ 64 from rfl, ← Nat.pow_mul] at h)
  omega
theorem p_Text_calls (vx : Value) (x : Rat) (K : Nat) (w : World) (hx : PV w vx x) (hK : K ≤ 268435456) (sx : SzP K x) : Calls Tryz.prog 50 #[vx] w (RetV w (strV (textQ x))) := by
 obtain ⟨gx, ax, nx, cx, Ax, Nx, Cx, rfl⟩ := hx.shape
 have egx := hx.sign
 have EGx := Lib.hid egx
 have hxn := hx.parts.2.1
 have hxd := hx.parts.2.2
 have sx1 := sx.1
 have sx2 := sx.2
 have l1 := decS_lenP sx1
 have l2 := decS_lenP sx2
 have hK' : K ≤ 536870912 := by omega
 have htx : textQ x = (if ng x then [45] else []) ++ decS x.num.natAbs ++ (if x.den = 1 then [] else 47 :: decS x.den) := rfl
 rw [← egx] at htx
 generalize textQ x = T at *
 have hdx := x.den_pos
 have hNx : Nx ≤ 9223372036854775807 := by
  obtain ⟨ao, n, c, l, e, hsl, hcl, hvl⟩ := hxd
  cases e
  have := hsl.cap; have := hsl.max; omega
 have hN0 : 0 < Nx ↔ x.den ≠ 1 := by
  obtain ⟨ao, n, c, l, e, hsl, hcl, hvl⟩ := hxd
  cases e
  have := hcl.length_pos_iff (by omega)
  rw [hsl.len, hvl] at this
  rw [this]
  split <;> omega
 generalize x.num.natAbs = xn at *
 generalize x.den = xd at *
 have HT := Lib.hid htx
 clear htx
 clear egx
 have hs := Below.refl w.heap.size w
 cases gx
 ·clear hx
  by_cases h1 : xd = 1
  ·have hn : Nx = 0 := by omega
   subst hn
   have H1 := Lib.hid h1
   clear h1 hN0
   go_enter Tryz.func50, Tryz.ntmps50
   go_wp2_with fail
   refine Calls.abs ?_
   intro w1 hW
   have hsz := hs.size
   have hs1 : Below w.heap.size w w1 := by rw [hW]; exact (Below.alloc hs (by first | exact hs.size | (have := hs.size; simp; done) | (have := hs.size; simp; omega)) _)
   have hk : KeepD w w1 := by rw [hW]; exact ((KeepD.refl _).alloc _)
   have Bl1x : Bx w1 (w.heap.size) 32 #[.bool false, .slice ax nx cx, .slice Ax 0 Cx] := by rw [hW]; exact (Bx.new' _ _ _ _ (by first | rfl | (simp; done)))
   replace hs := hs1
   clear hs1
   have Blx := Bl1x
   clear Bl1x
   replace hxn := hxn.keep hk
   replace hxd := hxd.keep hk
   clear hW hk hsz
   have hz_w1 := Blx.lt
   refine (ln_text hxn sx1 hK').mono ?_
   rintro e w2 ⟨rfl, hb⟩
   replace hs := bStep hs hb
   replace Blx := Blx.mono hb
   replace hxn := hxn.mono hb
   replace hxd := hxd.mono hb
   clear hb
   unfold strV
   have B0 := Blx.a0
   have B1 := Blx.a1
   have B2 := Blx.a2
   go_wp2
   go_ret
   refine ⟨?_, hs⟩
   rw [HT.out, if_pos H1.out]
   simp [strV]
  ·have hn : 0 < Nx := by omega
   rw [if_neg h1] at hxd
   have H1 := Lib.hid h1
   clear h1 hN0
   go_enter Tryz.func50, Tryz.ntmps50
   go_wp2_with fail
   refine Calls.abs ?_
   intro w1 hW
   have hsz := hs.size
   have hs1 : Below w.heap.size w w1 := by rw [hW]; exact (Below.alloc hs (by first | exact hs.size | (have := hs.size; simp; done) | (have := hs.size; simp; omega)) _)
   have hk : KeepD w w1 := by rw [hW]; exact ((KeepD.refl _).alloc _)
   have Bl1x : Bx w1 (w.heap.size) 32 #[.bool false, .slice ax nx cx, .slice Ax Nx Cx] := by rw [hW]; exact (Bx.new' _ _ _ _ (by first | rfl | (simp; done)))
   replace hs := hs1
   clear hs1
   have Blx := Bl1x
   clear Bl1x
   replace hxn := hxn.keep hk
   replace hxd := hxd.keep hk
   clear hW hk hsz
   have hz_w1 := Blx.lt
   refine (ln_text hxn sx1 hK').mono ?_
   rintro e w2 ⟨rfl, hb⟩
   replace hs := bStep hs hb
   replace Blx := Blx.mono hb
   replace hxn := hxn.mono hb
   replace hxd := hxd.mono hb
   clear hb
   unfold strV
   have B0 := Blx.a0
   have B1 := Blx.a1
   have B2 := Blx.a2
   go_wp2_with fail
   clear B0 B1 B2
   refine (ln_text hxd sx2 hK').mono ?_
   rintro e w3 ⟨rfl, hb⟩
   replace hs := bStep hs hb
   replace Blx := Blx.mono hb
   replace hxn := hxn.mono hb
   replace hxd := hxd.mono hb
   clear hb
   unfold strV
   have hcat : ∀ W : World, (Op.stringOp .add ⟨#[47]⟩ ⟨(decS xd).toArray⟩).run Tryz.prog W = .ok (.string ⟨(47 :: decS xd).toArray⟩) W := fun W => cat_eq W _ [47] (decS xd) (by simp only [List.length_cons, List.length_nil]; omega)
   have hcat2 : ∀ W : World, (Op.stringOp .add ⟨(decS xn).toArray⟩ ⟨(47 :: decS xd).toArray⟩).run Tryz.prog W = .ok (.string ⟨((decS xn) ++ (47 :: decS xd)).toArray⟩) W := fun W => cat_eq W _ (decS xn) (47 :: decS xd) (by simp only [List.length_cons]; omega)
   go_wp2
   go_ret
   refine ⟨?_, hs⟩
   rw [HT.out, if_neg H1.out]
   first | (simp [strV]; done) | (simp [strV, bytes_append])
 ·clear hx
  by_cases h1 : xd = 1
  ·have hn : Nx = 0 := by omega
   subst hn
   have H1 := Lib.hid h1
   clear h1 hN0
   go_enter Tryz.func50, Tryz.ntmps50
   go_wp2_with fail
   refine Calls.abs ?_
   intro w1 hW
   have hsz := hs.size
   have hs1 : Below w.heap.size w w1 := by rw [hW]; exact (Below.alloc hs (by first | exact hs.size | (have := hs.size; simp; done) | (have := hs.size; simp; omega)) _)
   have hk : KeepD w w1 := by rw [hW]; exact ((KeepD.refl _).alloc _)
   have Bl1x : Bx w1 (w.heap.size) 32 #[.bool true, .slice ax nx cx, .slice Ax 0 Cx] := by rw [hW]; exact (Bx.new' _ _ _ _ (by first | rfl | (simp; done)))
   replace hs := hs1
   clear hs1
   have Blx := Bl1x
   clear Bl1x
   replace hxn := hxn.keep hk
   replace hxd := hxd.keep hk
   clear hW hk hsz
   have hz_w1 := Blx.lt
   refine (ln_text hxn sx1 hK').mono ?_
   rintro e w2 ⟨rfl, hb⟩
   replace hs := bStep hs hb
   replace Blx := Blx.mono hb
   replace hxn := hxn.mono hb
   replace hxd := hxd.mono hb
   clear hb
   unfold strV
   have B0 := Blx.a0
   have B1 := Blx.a1
   have B2 := Blx.a2
   have hcat : ∀ W : World, (Op.stringOp .add ⟨#[45]⟩ ⟨(decS xn).toArray⟩).run Tryz.prog W = .ok (.string ⟨(45 :: decS xn).toArray⟩) W := fun W => cat_eq W _ [45] (decS xn) (by simp only [List.length_cons, List.length_nil]; omega)
   go_wp2
   go_ret
   refine ⟨?_, hs⟩
   rw [HT.out, if_pos H1.out]
   simp [strV]
  ·have hn : 0 < Nx := by omega
   rw [if_neg h1] at hxd
   have H1 := Lib.hid h1
   clear h1 hN0
   go_enter Tryz.func50, Tryz.ntmps50
   go_wp2_with fail
   refine Calls.abs ?_
   intro w1 hW
   have hsz := hs.size
   have hs1 : Below w.heap.size w w1 := by rw [hW]; exact (Below.alloc hs (by first | exact hs.size | (have := hs.size; simp; done) | (have := hs.size; simp; omega)) _)
   have hk : KeepD w w1 := by rw [hW]; exact ((KeepD.refl _).alloc _)
   have Bl1x : Bx w1 (w.heap.size) 32 #[.bool true, .slice ax nx cx, .slice Ax Nx Cx] := by rw [hW]; exact (Bx.new' _ _ _ _ (by first | rfl | (simp; done)))
   replace hs := hs1
   clear hs1
   have Blx := Bl1x
   clear Bl1x
   replace hxn := hxn.keep hk
   replace hxd := hxd.keep hk
   clear hW hk hsz
   have hz_w1 := Blx.lt
   refine (ln_text hxn sx1 hK').mono ?_
   rintro e w2 ⟨rfl, hb⟩
   replace hs := bStep hs hb
   replace Blx := Blx.mono hb
   replace hxn := hxn.mono hb
   replace hxd := hxd.mono hb
   clear hb
   unfold strV
   have B0 := Blx.a0
   have B1 := Blx.a1
   have B2 := Blx.a2
   have hcat : ∀ W : World, (Op.stringOp .add ⟨#[45]⟩ ⟨(decS xn).toArray⟩).run Tryz.prog W = .ok (.string ⟨(45 :: decS xn).toArray⟩) W := fun W => cat_eq W _ [45] (decS xn) (by simp only [List.length_cons, List.length_nil]; omega)
   go_wp2_with fail
   clear B0 B1 B2 hcat
   refine (ln_text hxd sx2 hK').mono ?_
   rintro e w3 ⟨rfl, hb⟩
   replace hs := bStep hs hb
   replace Blx := Blx.mono hb
   replace hxn := hxn.mono hb
   replace hxd := hxd.mono hb
   clear hb
   unfold strV
   have hcat : ∀ W : World, (Op.stringOp .add ⟨#[47]⟩ ⟨(decS xd).toArray⟩).run Tryz.prog W = .ok (.string ⟨(47 :: decS xd).toArray⟩) W := fun W => cat_eq W _ [47] (decS xd) (by simp only [List.length_cons, List.length_nil]; omega)
   have hcat2 : ∀ W : World, (Op.stringOp .add ⟨(45 :: decS xn).toArray⟩ ⟨(47 :: decS xd).toArray⟩).run Tryz.prog W = .ok (.string ⟨((45 :: decS xn) ++ (47 :: decS xd)).toArray⟩) W := fun W => cat_eq W _ (45 :: decS xn) (47 :: decS xd) (by simp only [List.length_cons]; omega)
   go_wp2
   go_ret
   refine ⟨?_, hs⟩
   rw [HT.out, if_neg H1.out]
   first | (simp [strV]; done) | (simp [strV, bytes_append])
end Go.Proofs.YtkfekkhhfpkfaaaGreat
