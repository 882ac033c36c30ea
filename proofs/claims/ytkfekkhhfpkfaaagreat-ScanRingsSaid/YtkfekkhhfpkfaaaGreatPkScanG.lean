/-
  The contracts of small functions of scan, of its reference: whole, over, thrown; zero, one, quotient, reflect.
-/
import Derived.Test.YtkfekkhhfpkfaaaGreatPkOpsG
set_option linter.unusedSimpArgs false
set_option linter.unusedVariables false
set_option maxRecDepth 100000
set_option maxHeartbeats 4000000
namespace Go.Proofs.YtkfekkhhfpkfaaaGreat
open Go.RowKit Dg
attribute [local go_sem ↓] Go.wp_at_zero Go.wp_at_succ
theorem sc_whole (n : Int) (w : World) (h0 : -9223372036854775808 ≤ n) (h1 : n ≤ 9223372036854775807) : Calls Tryz.prog 52 #[.int .i64 n] w (RetP w (n : Rat)) := by
 have hs := Below.refl w.heap.size w
 go_enter Tryz.func52, Tryz.ntmps52
 go_wp2_with fail
 refine Calls.abs ?_
 intro w1 hW
 have hsz := hs.size
 have hs1 : Below w.heap.size w w1 := by rw [hW]; exact (Below.alloc hs (by first | exact hs.size | (have := hs.size; simp; done) | (have := hs.size; simp; omega)) _)
 have hk : KeepD w w1 := by rw [hW]; exact ((KeepD.refl _).alloc _)
 have Bl1z : Bx w1 (w.heap.size) 32 #[.bool false, .slice none 0 0, .slice none 0 0] := by rw [hW]; exact (Bx.new' _ _ _ _ (by first | rfl | (simp; done)))
 replace hs := hs1
 clear hs1
 have Blz := Bl1z
 clear Bl1z
 clear hW hk hsz
 have hz_w1 := Blz.lt
 refine (p_Int_calls n _ h0 h1).mono ?_
 rintro e w2 ⟨_, rfl, hQ, hb⟩
 obtain ⟨shQ, ahQ, nhQ, chQ, AhQ, NhQ, ChQ, rfl⟩ := hQ.shape
 replace hs := bStep hs hb
 replace Blz := Blz.mono hb
 clear hb
 have B6 := Blz.a0
 have B7 := Blz.a1
 have B8 := Blz.a2
 have fz := Blz.free
 have Lz := Blz.lt
 go_wp2
 refine bodyPost.abs ?_
 intro w3 hW
 have hsz := hs.size
 have lz := Blz.lt
 have hs1 : Below w.heap.size w w3 := by rw [hW]; exact (Below.setCell (Below.setCell (Below.setCell hs (by first | exact Nat.le_refl _ | omega | (have := hs.size; simp; done) | (have := hs.size; simp; omega)) _) (by first | exact Nat.le_refl _ | omega | (have := hs.size; simp; done) | (have := hs.size; simp; omega)) _) (by first | exact Nat.le_refl _ | omega | (have := hs.size; simp; done) | (have := hs.size; simp; omega)) _)
 have hk : KeepD w2 w3 := by rw [hW]; exact (KeepD.set (KeepD.set (KeepD.set (KeepD.refl _) Blz.ty (by decide) _ _) (TyB.store Blz.ty _ _) (by decide) _ _) (TyB.store (TyB.store Blz.ty _ _) _ _) (by decide) _ _)
 have Bl1z : Bx w3 (w.heap.size) 32 #[.bool shQ, .slice ahQ nhQ chQ, .slice AhQ NhQ ChQ] := by rw [hW]; exact (Bx.set (Bx.set (Bx.set Blz 0 _ rfl) 1 _ rfl) 2 _ rfl)
 replace hs := hs1
 clear hs1
 replace Blz := Bl1z
 clear Bl1z
 replace hQ := hQ.keep hk
 clear hW hk hsz lz
 exact ret_P rfl rfl rfl Blz hQ hs
theorem sc_over (vx vy : Value) (x y : Rat) (w : World) (hx : PV w vx x) (hy : PV w vy y) (fx : Fit x) (fy : Fit y) (hy0 : y ≠ 0) :
  Calls Tryz.prog 56 #[vx, vy] w (RetP w (x / y)) := by
 obtain ⟨gx, ax, nx, cx, Ax, Nx, Cx, rfl⟩ := hx.shape
 obtain ⟨gy, ay, ny, cy, Ay, Ny, Cy, rfl⟩ := hy.shape
 have hs := Below.refl w.heap.size w
 go_enter Tryz.func56, Tryz.ntmps56
 go_wp2_with fail
 refine Calls.abs ?_
 intro w1 hW
 have hsz := hs.size
 have hs1 : Below w.heap.size w w1 := by rw [hW]; exact (Below.alloc (Below.alloc (Below.alloc hs (by first | exact hs.size | (have := hs.size; simp; done) | (have := hs.size; simp; omega)) _) (by first | exact hs.size | (have := hs.size; simp; done) | (have := hs.size; simp; omega)) _) (by first | exact hs.size | (have := hs.size; simp; done) | (have := hs.size; simp; omega)) _)
 have hk : KeepD w w1 := by rw [hW]; exact ((((KeepD.refl _).alloc _).alloc _).alloc _)
 have Bl1x : Bx w1 (w.heap.size) 32 #[.bool gx, .slice ax nx cx, .slice Ax Nx Cx] := by rw [hW]; exact (((Bx.new' _ _ _ _ (by first | rfl | (simp; done))).alloc _).alloc _)
 have Bl1y : Bx w1 (w.heap.size + 1) 32 #[.bool gy, .slice ay ny cy, .slice Ay Ny Cy] := by rw [hW]; exact ((Bx.new' _ _ _ _ (by first | rfl | (simp; done))).alloc _)
 have Bl1z : Bx w1 (w.heap.size + 1 + 1) 32 #[.bool false, .slice none 0 0, .slice none 0 0] := by rw [hW]; exact (Bx.new' _ _ _ _ (by first | rfl | (simp; done)))
 replace hs := hs1
 clear hs1
 have Blx := Bl1x
 clear Bl1x
 have Bly := Bl1y
 clear Bl1y
 have Blz := Bl1z
 clear Bl1z
 replace hx := hx.keep hk
 replace hy := hy.keep hk
 clear hW hk hsz
 have hz_w1 := Blz.lt
 refine (pDiv hx hy fx fy hy0).mono ?_
 rintro e w2 ⟨_, rfl, hq, hb⟩
 obtain ⟨shq, ahq, nhq, chq, Ahq, Nhq, Chq, rfl⟩ := hq.shape
 replace hs := bStep hs hb
 replace Blx := Blx.mono hb
 replace Bly := Bly.mono hb
 replace Blz := Blz.mono hb
 replace hx := hx.mono hb
 replace hy := hy.mono hb
 clear hb
 have B6 := Blz.a0
 have B7 := Blz.a1
 have B8 := Blz.a2
 have fz := Blz.free
 have Lz := Blz.lt
 go_wp2
 refine bodyPost.abs ?_
 intro w3 hW
 have hsz := hs.size
 have lx := Blx.lt
 have ly := Bly.lt
 have lz := Blz.lt
 have hs1 : Below w.heap.size w w3 := by rw [hW]; exact (Below.alloc (Below.setCell (Below.setCell (Below.setCell hs (by first | exact Nat.le_refl _ | omega | (have := hs.size; simp; done) | (have := hs.size; simp; omega)) _) (by first | exact Nat.le_refl _ | omega | (have := hs.size; simp; done) | (have := hs.size; simp; omega)) _) (by first | exact Nat.le_refl _ | omega | (have := hs.size; simp; done) | (have := hs.size; simp; omega)) _) (by first | exact hs.size | (have := hs.size; simp; done) | (have := hs.size; simp; omega)) _)
 have hk : KeepD w2 w3 := by rw [hW]; exact ((KeepD.set (KeepD.set (KeepD.set (KeepD.refl _) Blz.ty (by decide) _ _) (TyB.store Blz.ty _ _) (by decide) _ _) (TyB.store (TyB.store Blz.ty _ _) _ _) (by decide) _ _).alloc _)
 have Bl1x : Bx w3 (w.heap.size) 32 #[.bool gx, .slice ax nx cx, .slice Ax Nx Cx] := by rw [hW]; exact ((Bx.far (Bx.far (Bx.far Blx (by first | omega | (simp; done) | (simp; omega)) _) (by first | omega | (simp; done) | (simp; omega)) _) (by first | omega | (simp; done) | (simp; omega)) _).alloc _)
 have Bl1y : Bx w3 (w.heap.size + 1) 32 #[.bool gy, .slice ay ny cy, .slice Ay Ny Cy] := by rw [hW]; exact ((Bx.far (Bx.far (Bx.far Bly (by first | omega | (simp; done) | (simp; omega)) _) (by first | omega | (simp; done) | (simp; omega)) _) (by first | omega | (simp; done) | (simp; omega)) _).alloc _)
 have Bl1z : Bx w3 (w.heap.size + 1 + 1) 32 #[.bool shq, .slice ahq nhq chq, .slice Ahq Nhq Chq] := by rw [hW]; exact ((Bx.set (Bx.set (Bx.set Blz 0 _ rfl) 1 _ rfl) 2 _ rfl).alloc _)
 have Bl1q : Bx w3 (w2.heap.size) 32 #[.bool shq, .slice ahq nhq chq, .slice Ahq Nhq Chq] := by rw [hW]; exact (Bx.new' _ _ _ _ (by first | rfl | (simp; done)))
 replace hs := hs1
 clear hs1
 replace Blx := Bl1x
 clear Bl1x
 replace Bly := Bl1y
 clear Bl1y
 replace Blz := Bl1z
 clear Bl1z
 have Blq := Bl1q
 clear Bl1q
 replace hx := hx.keep hk
 replace hy := hy.keep hk
 replace hq := hq.keep hk
 clear hW hk hsz lx ly lz
 have hz_w3 := Blq.lt
 exact ret_P rfl rfl rfl Blz hq hs
theorem sc_thrown (vx vy : Value) (x y : Rat) (w : World) (hx : PV w vx x) (hy : PV w vy y) (fx : Fit x) (fy : Fit y) (f1 : Fit (y - x)) (f2 : Fit (y + x)) (h0 : y + x ≠ 0) :
  Calls Tryz.prog 53 #[vx, vy] w (RetP w ((y - x) / (y + x))) := by
 obtain ⟨gx, ax, nx, cx, Ax, Nx, Cx, rfl⟩ := hx.shape
 obtain ⟨gy, ay, ny, cy, Ay, Ny, Cy, rfl⟩ := hy.shape
 have hs := Below.refl w.heap.size w
 go_enter Tryz.func53, Tryz.ntmps53
 go_wp2_with fail
 refine Code.abs ?_
 intro w1 hW
 have hsz := hs.size
 have hs1 : Below w.heap.size w w1 := by rw [hW]; exact (Below.alloc (Below.alloc (Below.alloc hs (by first | exact hs.size | (have := hs.size; simp; done) | (have := hs.size; simp; omega)) _) (by first | exact hs.size | (have := hs.size; simp; done) | (have := hs.size; simp; omega)) _) (by first | exact hs.size | (have := hs.size; simp; done) | (have := hs.size; simp; omega)) _)
 have hk : KeepD w w1 := by rw [hW]; exact ((((KeepD.refl _).alloc _).alloc _).alloc _)
 have Bl1x : Bx w1 (w.heap.size) 32 #[.bool gx, .slice ax nx cx, .slice Ax Nx Cx] := by rw [hW]; exact (((Bx.new' _ _ _ _ (by first | rfl | (simp; done))).alloc _).alloc _)
 have Bl1y : Bx w1 (w.heap.size + 1) 32 #[.bool gy, .slice ay ny cy, .slice Ay Ny Cy] := by rw [hW]; exact ((Bx.new' _ _ _ _ (by first | rfl | (simp; done))).alloc _)
 have Bl1z : Bx w1 (w.heap.size + 1 + 1) 32 #[.bool false, .slice none 0 0, .slice none 0 0] := by rw [hW]; exact (Bx.new' _ _ _ _ (by first | rfl | (simp; done)))
 replace hs := hs1
 clear hs1
 have Blx := Bl1x
 clear Bl1x
 have Bly := Bl1y
 clear Bl1y
 have Blz := Bl1z
 clear Bl1z
 replace hx := hx.keep hk
 replace hy := hy.keep hk
 clear hW hk hsz
 have hz_w1 := Blz.lt
 have hb := bDrew w1
 replace hs := bStep hs hb
 replace Blx := Blx.mono hb
 replace Bly := Bly.mono hb
 replace Blz := Blz.mono hb
 replace hx := hx.mono hb
 replace hy := hy.mono hb
 clear hb
 have B0 := Blx.a0
 have B1 := Blx.a1
 have B2 := Blx.a2
 have B3 := Bly.a0
 have B4 := Bly.a1
 have B5 := Bly.a2
 go_region_held3 (fun w' => w'.cell? ⟨w.heap.size, 0, none⟩ = some (.bool gx) ∧ w'.cell? ⟨w.heap.size, 1, none⟩ = some (.slice ax nx cx) ∧ w'.cell? ⟨w.heap.size, 2, none⟩ = some (.slice Ax Nx Cx) ∧ w'.cell? ⟨w.heap.size + 1, 0, none⟩ = some (.bool gy) ∧ w'.cell? ⟨w.heap.size + 1, 1, none⟩ = some (.slice ay ny cy) ∧ w'.cell? ⟨w.heap.size + 1, 2, none⟩ = some (.slice Ay Ny Cy))
  (first | exact ⟨B0, B1, B2, B3, B4, B5⟩ | exact ⟨cellO (cellO (cellO (B0) (by first | omega | (have := hs.size; simp; done) | (have := hs.size; simp; omega))) (by first | omega | (have := hs.size; simp; done) | (have := hs.size; simp; omega))) (by first | omega | (have := hs.size; simp; done) | (have := hs.size; simp; omega)), cellO (cellO (cellO (B1) (by first | omega | (have := hs.size; simp; done) | (have := hs.size; simp; omega))) (by first | omega | (have := hs.size; simp; done) | (have := hs.size; simp; omega))) (by first | omega | (have := hs.size; simp; done) | (have := hs.size; simp; omega)), cellO (cellO (cellO (B2) (by first | omega | (have := hs.size; simp; done) | (have := hs.size; simp; omega))) (by first | omega | (have := hs.size; simp; done) | (have := hs.size; simp; omega))) (by first | omega | (have := hs.size; simp; done) | (have := hs.size; simp; omega)), cellO (cellO (cellO (B3) (by first | omega | (have := hs.size; simp; done) | (have := hs.size; simp; omega))) (by first | omega | (have := hs.size; simp; done) | (have := hs.size; simp; omega))) (by first | omega | (have := hs.size; simp; done) | (have := hs.size; simp; omega)), cellO (cellO (cellO (B4) (by first | omega | (have := hs.size; simp; done) | (have := hs.size; simp; omega))) (by first | omega | (have := hs.size; simp; done) | (have := hs.size; simp; omega))) (by first | omega | (have := hs.size; simp; done) | (have := hs.size; simp; omega)), cellO (cellO (cellO (B5) (by first | omega | (have := hs.size; simp; done) | (have := hs.size; simp; omega))) (by first | omega | (have := hs.size; simp; done) | (have := hs.size; simp; omega))) (by first | omega | (have := hs.size; simp; done) | (have := hs.size; simp; omega))⟩ | exact ⟨cellA B0 _, cellA B1 _, cellA B2 _, cellA B3 _, cellA B4 _, cellA B5 _⟩ | go_keep)
  (first
   | (go_at_call 57; (with_reducible refine (pSub hy hx fy fx).mono ?_); rintro e w2 ⟨_, rfl, hd, hb⟩; obtain ⟨shd, ahd, nhd, chd, Ahd, Nhd, Chd, rfl⟩ := hd.shape; replace hs := bStep hs hb; replace Blx := Blx.mono hb; replace Bly := Bly.mono hb; replace Blz := Blz.mono hb; replace hx := hx.mono hb; replace hy := hy.mono hb; replace B0 := cellK B0 hb; replace B1 := cellK B1 hb; replace B2 := cellK B2 hb; replace B3 := cellK B3 hb; replace B4 := cellK B4 hb; replace B5 := cellK B5 hb; clear hb)
   | (go_at_call 54; (with_reducible refine (pAdd hy hx fy fx).mono ?_); rintro e w3 ⟨_, rfl, hm, hb⟩; obtain ⟨shm, ahm, nhm, chm, Ahm, Nhm, Chm, rfl⟩ := hm.shape; replace hs := bStep hs hb; replace Blx := Blx.mono hb; replace Bly := Bly.mono hb; replace Blz := Blz.mono hb; replace hx := hx.mono hb; replace hy := hy.mono hb; replace hd := hd.mono hb; replace B0 := cellK B0 hb; replace B1 := cellK B1 hb; replace B2 := cellK B2 hb; replace B3 := cellK B3 hb; replace B4 := cellK B4 hb; replace B5 := cellK B5 hb; clear hb)
   | (go_at_call 56; (with_reducible refine (sc_over _ _ _ _ _ hd hm f1 f2 h0).mono ?_); rintro e w4 ⟨_, rfl, hQ, hb⟩; obtain ⟨shQ, ahQ, nhQ, chQ, AhQ, NhQ, ChQ, rfl⟩ := hQ.shape; replace hs := bStep hs hb; replace Blx := Blx.mono hb; replace Bly := Bly.mono hb; replace Blz := Blz.mono hb; replace hx := hx.mono hb; replace hy := hy.mono hb; replace hd := hd.mono hb; replace hm := hm.mono hb; replace B0 := cellK B0 hb; replace B1 := cellK B1 hb; replace B2 := cellK B2 hb; replace B3 := cellK B3 hb; replace B4 := cellK B4 hb; replace B5 := cellK B5 hb; clear hb; have B6 : w4.cell? ⟨w.heap.size + 1 + 1, 0, none⟩ = some (.bool false) := Blz.at 0 rfl; have B7 : w4.cell? ⟨w.heap.size + 1 + 1, 1, none⟩ = some (.slice none 0 0) := Blz.at 1 rfl; have B8 : w4.cell? ⟨w.heap.size + 1 + 1, 2, none⟩ = some (.slice none 0 0) := Blz.at 2 rfl; have fz := Blz.free; have Lz : w.heap.size + 1 + 1 < w4.heap.size := Blz.lt))
 clear B0 B1 B2 B3 B4 B5
 go_wp2
 refine bodyPost.abs ?_
 intro w5 hW
 have hsz := hs.size
 have lx := Blx.lt
 have ly := Bly.lt
 have lz := Blz.lt
 have hs1 : Below w.heap.size w w5 := by rw [hW]; exact (Below.setCell (Below.setCell (Below.setCell hs (by first | exact Nat.le_refl _ | omega | (have := hs.size; simp; done) | (have := hs.size; simp; omega)) _) (by first | exact Nat.le_refl _ | omega | (have := hs.size; simp; done) | (have := hs.size; simp; omega)) _) (by first | exact Nat.le_refl _ | omega | (have := hs.size; simp; done) | (have := hs.size; simp; omega)) _)
 have hk : KeepD w4 w5 := by rw [hW]; exact (KeepD.set (KeepD.set (KeepD.set (KeepD.refl _) Blz.ty (by decide) _ _) (TyB.store Blz.ty _ _) (by decide) _ _) (TyB.store (TyB.store Blz.ty _ _) _ _) (by decide) _ _)
 have Bl1x : Bx w5 (w.heap.size) 32 #[.bool gx, .slice ax nx cx, .slice Ax Nx Cx] := by rw [hW]; exact (Bx.far (Bx.far (Bx.far Blx (by first | omega | (simp; done) | (simp; omega)) _) (by first | omega | (simp; done) | (simp; omega)) _) (by first | omega | (simp; done) | (simp; omega)) _)
 have Bl1y : Bx w5 (w.heap.size + 1) 32 #[.bool gy, .slice ay ny cy, .slice Ay Ny Cy] := by rw [hW]; exact (Bx.far (Bx.far (Bx.far Bly (by first | omega | (simp; done) | (simp; omega)) _) (by first | omega | (simp; done) | (simp; omega)) _) (by first | omega | (simp; done) | (simp; omega)) _)
 have Bl1z : Bx w5 (w.heap.size + 1 + 1) 32 #[.bool shQ, .slice ahQ nhQ chQ, .slice AhQ NhQ ChQ] := by rw [hW]; exact (Bx.set (Bx.set (Bx.set Blz 0 _ rfl) 1 _ rfl) 2 _ rfl)
 replace hs := hs1
 clear hs1
 replace Blx := Bl1x
 clear Bl1x
 replace Bly := Bl1y
 clear Bl1y
 replace Blz := Bl1z
 clear Bl1z
 replace hx := hx.keep hk
 replace hy := hy.keep hk
 replace hd := hd.keep hk
 replace hm := hm.keep hk
 replace hQ := hQ.keep hk
 clear hW hk hsz lx ly lz
 exact ret_P rfl rfl rfl Blz hQ hs
theorem r7_zero (w : World) : Calls Tryz.prog 58 #[] w (RetQ w 0) := by
 have hs := Below.refl w.heap.size w
 go_enter Tryz.func58, Tryz.ntmps58
 go_wp2_with fail
 refine Calls.abs ?_
 intro w1 hW
 have hsz := hs.size
 have hs1 : Below w.heap.size w w1 := by rw [hW]; exact (Below.alloc hs (by first | exact hs.size | (have := hs.size; simp; done) | (have := hs.size; simp; omega)) _)
 have hk : KeepD w w1 := by rw [hW]; exact ((KeepD.refl _).alloc _)
 have Bl1z : Bx w1 (w.heap.size) 38 #[.bool false, .slice none 0 0, .slice none 0 0] := by rw [hW]; exact (Bx.new' _ _ _ _ (by first | rfl | (simp; done)))
 replace hs := hs1
 clear hs1
 have Blz := Bl1z
 clear Bl1z
 clear hW hk hsz
 have hz_w1 := Blz.lt
 refine (r_Int_calls 0 _ (by omega) (by omega)).mono ?_
 rintro e w2 ⟨_, rfl, hQ, hb⟩
 obtain ⟨shQ, ahQ, nhQ, chQ, AhQ, NhQ, ChQ, rfl⟩ := hQ.shape
 replace hs := bStep hs hb
 replace Blz := Blz.mono hb
 clear hb
 have B6 := Blz.a0
 have B7 := Blz.a1
 have B8 := Blz.a2
 have fz := Blz.free
 have Lz := Blz.lt
 go_wp2
 refine bodyPost.abs ?_
 intro w3 hW
 have hsz := hs.size
 have lz := Blz.lt
 have hs1 : Below w.heap.size w w3 := by rw [hW]; exact (Below.setCell (Below.setCell (Below.setCell hs (by first | exact Nat.le_refl _ | omega | (have := hs.size; simp; done) | (have := hs.size; simp; omega)) _) (by first | exact Nat.le_refl _ | omega | (have := hs.size; simp; done) | (have := hs.size; simp; omega)) _) (by first | exact Nat.le_refl _ | omega | (have := hs.size; simp; done) | (have := hs.size; simp; omega)) _)
 have hk : KeepD w2 w3 := by rw [hW]; exact (KeepD.set (KeepD.set (KeepD.set (KeepD.refl _) Blz.ty (by decide) _ _) (TyB.store Blz.ty _ _) (by decide) _ _) (TyB.store (TyB.store Blz.ty _ _) _ _) (by decide) _ _)
 have Bl1z : Bx w3 (w.heap.size) 38 #[.bool shQ, .slice ahQ nhQ chQ, .slice AhQ NhQ ChQ] := by rw [hW]; exact (Bx.set (Bx.set (Bx.set Blz 0 _ rfl) 1 _ rfl) 2 _ rfl)
 replace hs := hs1
 clear hs1
 replace Blz := Bl1z
 clear Bl1z
 replace hQ := hQ.keep hk
 clear hW hk hsz lz
 exact ret_RB rfl rfl rfl Blz (hQ.of_eq (by simp)) hs
theorem r7_one (w : World) : Calls Tryz.prog 60 #[] w (RetQ w 1) := by
 have hs := Below.refl w.heap.size w
 go_enter Tryz.func60, Tryz.ntmps60
 go_wp2_with fail
 refine Calls.abs ?_
 intro w1 hW
 have hsz := hs.size
 have hs1 : Below w.heap.size w w1 := by rw [hW]; exact (Below.alloc hs (by first | exact hs.size | (have := hs.size; simp; done) | (have := hs.size; simp; omega)) _)
 have hk : KeepD w w1 := by rw [hW]; exact ((KeepD.refl _).alloc _)
 have Bl1z : Bx w1 (w.heap.size) 38 #[.bool false, .slice none 0 0, .slice none 0 0] := by rw [hW]; exact (Bx.new' _ _ _ _ (by first | rfl | (simp; done)))
 replace hs := hs1
 clear hs1
 have Blz := Bl1z
 clear Bl1z
 clear hW hk hsz
 have hz_w1 := Blz.lt
 refine (r_Int_calls 1 _ (by omega) (by omega)).mono ?_
 rintro e w2 ⟨_, rfl, hQ, hb⟩
 obtain ⟨shQ, ahQ, nhQ, chQ, AhQ, NhQ, ChQ, rfl⟩ := hQ.shape
 replace hs := bStep hs hb
 replace Blz := Blz.mono hb
 clear hb
 have B6 := Blz.a0
 have B7 := Blz.a1
 have B8 := Blz.a2
 have fz := Blz.free
 have Lz := Blz.lt
 go_wp2
 refine bodyPost.abs ?_
 intro w3 hW
 have hsz := hs.size
 have lz := Blz.lt
 have hs1 : Below w.heap.size w w3 := by rw [hW]; exact (Below.setCell (Below.setCell (Below.setCell hs (by first | exact Nat.le_refl _ | omega | (have := hs.size; simp; done) | (have := hs.size; simp; omega)) _) (by first | exact Nat.le_refl _ | omega | (have := hs.size; simp; done) | (have := hs.size; simp; omega)) _) (by first | exact Nat.le_refl _ | omega | (have := hs.size; simp; done) | (have := hs.size; simp; omega)) _)
 have hk : KeepD w2 w3 := by rw [hW]; exact (KeepD.set (KeepD.set (KeepD.set (KeepD.refl _) Blz.ty (by decide) _ _) (TyB.store Blz.ty _ _) (by decide) _ _) (TyB.store (TyB.store Blz.ty _ _) _ _) (by decide) _ _)
 have Bl1z : Bx w3 (w.heap.size) 38 #[.bool shQ, .slice ahQ nhQ chQ, .slice AhQ NhQ ChQ] := by rw [hW]; exact (Bx.set (Bx.set (Bx.set Blz 0 _ rfl) 1 _ rfl) 2 _ rfl)
 replace hs := hs1
 clear hs1
 replace Blz := Bl1z
 clear Bl1z
 replace hQ := hQ.keep hk
 clear hW hk hsz lz
 exact ret_RB rfl rfl rfl Blz (hQ.of_eq (by simp)) hs
theorem r7_quotient (vx vy : Value) (x y : Rat) (w : World) (hx : RV w vx x) (hy : RV w vy y) (fx : Fit x) (fy : Fit y) (hy0 : y ≠ 0) :
  Calls Tryz.prog 65 #[vx, vy] w (RetQ w (x / y)) := by
 obtain ⟨gx, ax, nx, cx, Ax, Nx, Cx, rfl⟩ := hx.shape
 obtain ⟨gy, ay, ny, cy, Ay, Ny, Cy, rfl⟩ := hy.shape
 have hs := Below.refl w.heap.size w
 go_enter Tryz.func65, Tryz.ntmps65
 go_wp2_with fail
 refine Calls.abs ?_
 intro w1 hW
 have hsz := hs.size
 have hs1 : Below w.heap.size w w1 := by rw [hW]; exact (Below.alloc (Below.alloc (Below.alloc hs (by first | exact hs.size | (have := hs.size; simp; done) | (have := hs.size; simp; omega)) _) (by first | exact hs.size | (have := hs.size; simp; done) | (have := hs.size; simp; omega)) _) (by first | exact hs.size | (have := hs.size; simp; done) | (have := hs.size; simp; omega)) _)
 have hk : KeepD w w1 := by rw [hW]; exact ((((KeepD.refl _).alloc _).alloc _).alloc _)
 have Bl1x : Bx w1 (w.heap.size) 38 #[.bool gx, .slice ax nx cx, .slice Ax Nx Cx] := by rw [hW]; exact (((Bx.new' _ _ _ _ (by first | rfl | (simp; done))).alloc _).alloc _)
 have Bl1y : Bx w1 (w.heap.size + 1) 38 #[.bool gy, .slice ay ny cy, .slice Ay Ny Cy] := by rw [hW]; exact ((Bx.new' _ _ _ _ (by first | rfl | (simp; done))).alloc _)
 have Bl1z : Bx w1 (w.heap.size + 1 + 1) 38 #[.bool false, .slice none 0 0, .slice none 0 0] := by rw [hW]; exact (Bx.new' _ _ _ _ (by first | rfl | (simp; done)))
 replace hs := hs1
 clear hs1
 have Blx := Bl1x
 clear Bl1x
 have Bly := Bl1y
 clear Bl1y
 have Blz := Bl1z
 clear Bl1z
 replace hx := hx.keep hk
 replace hy := hy.keep hk
 clear hW hk hsz
 have hz_w1 := Blz.lt
 refine (rDiv hx hy fx fy hy0).mono ?_
 rintro e w2 ⟨_, rfl, hq, hb⟩
 obtain ⟨shq, ahq, nhq, chq, Ahq, Nhq, Chq, rfl⟩ := hq.shape
 replace hs := bStep hs hb
 replace Blx := Blx.mono hb
 replace Bly := Bly.mono hb
 replace Blz := Blz.mono hb
 replace hx := hx.mono hb
 replace hy := hy.mono hb
 clear hb
 have B6 := Blz.a0
 have B7 := Blz.a1
 have B8 := Blz.a2
 have fz := Blz.free
 have Lz := Blz.lt
 go_wp2
 refine bodyPost.abs ?_
 intro w3 hW
 have hsz := hs.size
 have lx := Blx.lt
 have ly := Bly.lt
 have lz := Blz.lt
 have hs1 : Below w.heap.size w w3 := by rw [hW]; exact (Below.alloc (Below.setCell (Below.setCell (Below.setCell hs (by first | exact Nat.le_refl _ | omega | (have := hs.size; simp; done) | (have := hs.size; simp; omega)) _) (by first | exact Nat.le_refl _ | omega | (have := hs.size; simp; done) | (have := hs.size; simp; omega)) _) (by first | exact Nat.le_refl _ | omega | (have := hs.size; simp; done) | (have := hs.size; simp; omega)) _) (by first | exact hs.size | (have := hs.size; simp; done) | (have := hs.size; simp; omega)) _)
 have hk : KeepD w2 w3 := by rw [hW]; exact ((KeepD.set (KeepD.set (KeepD.set (KeepD.refl _) Blz.ty (by decide) _ _) (TyB.store Blz.ty _ _) (by decide) _ _) (TyB.store (TyB.store Blz.ty _ _) _ _) (by decide) _ _).alloc _)
 have Bl1x : Bx w3 (w.heap.size) 38 #[.bool gx, .slice ax nx cx, .slice Ax Nx Cx] := by rw [hW]; exact ((Bx.far (Bx.far (Bx.far Blx (by first | omega | (simp; done) | (simp; omega)) _) (by first | omega | (simp; done) | (simp; omega)) _) (by first | omega | (simp; done) | (simp; omega)) _).alloc _)
 have Bl1y : Bx w3 (w.heap.size + 1) 38 #[.bool gy, .slice ay ny cy, .slice Ay Ny Cy] := by rw [hW]; exact ((Bx.far (Bx.far (Bx.far Bly (by first | omega | (simp; done) | (simp; omega)) _) (by first | omega | (simp; done) | (simp; omega)) _) (by first | omega | (simp; done) | (simp; omega)) _).alloc _)
 have Bl1z : Bx w3 (w.heap.size + 1 + 1) 38 #[.bool shq, .slice ahq nhq chq, .slice Ahq Nhq Chq] := by rw [hW]; exact ((Bx.set (Bx.set (Bx.set Blz 0 _ rfl) 1 _ rfl) 2 _ rfl).alloc _)
 have Bl1q : Bx w3 (w2.heap.size) 38 #[.bool shq, .slice ahq nhq chq, .slice Ahq Nhq Chq] := by rw [hW]; exact (Bx.new' _ _ _ _ (by first | rfl | (simp; done)))
 replace hs := hs1
 clear hs1
 replace Blx := Bl1x
 clear Bl1x
 replace Bly := Bl1y
 clear Bl1y
 replace Blz := Bl1z
 clear Bl1z
 have Blq := Bl1q
 clear Bl1q
 replace hx := hx.keep hk
 replace hy := hy.keep hk
 replace hq := hq.keep hk
 clear hW hk hsz lx ly lz
 have hz_w3 := Blq.lt
 exact ret_RB rfl rfl rfl Blz hq hs
theorem r7_reflect (vx vy : Value) (x y : Rat) (w : World) (hx : RV w vx x) (hy : RV w vy y) (fx : Fit x) (fy : Fit y) (f1 : Fit (y - x)) (f2 : Fit (y + x)) (h0 : y + x ≠ 0) :
  Calls Tryz.prog 61 #[vx, vy] w (RetQ w ((y - x) / (y + x))) := by
 obtain ⟨gx, ax, nx, cx, Ax, Nx, Cx, rfl⟩ := hx.shape
 obtain ⟨gy, ay, ny, cy, Ay, Ny, Cy, rfl⟩ := hy.shape
 rw [Rat.add_comm] at f2 h0 ⊢
 have hs := Below.refl w.heap.size w
 go_enter Tryz.func61, Tryz.ntmps61
 go_wp2_with fail
 refine Code.abs ?_
 intro w1 hW
 have hsz := hs.size
 have hs1 : Below w.heap.size w w1 := by rw [hW]; exact (Below.alloc (Below.alloc (Below.alloc hs (by first | exact hs.size | (have := hs.size; simp; done) | (have := hs.size; simp; omega)) _) (by first | exact hs.size | (have := hs.size; simp; done) | (have := hs.size; simp; omega)) _) (by first | exact hs.size | (have := hs.size; simp; done) | (have := hs.size; simp; omega)) _)
 have hk : KeepD w w1 := by rw [hW]; exact ((((KeepD.refl _).alloc _).alloc _).alloc _)
 have Bl1x : Bx w1 (w.heap.size) 38 #[.bool gx, .slice ax nx cx, .slice Ax Nx Cx] := by rw [hW]; exact (((Bx.new' _ _ _ _ (by first | rfl | (simp; done))).alloc _).alloc _)
 have Bl1y : Bx w1 (w.heap.size + 1) 38 #[.bool gy, .slice ay ny cy, .slice Ay Ny Cy] := by rw [hW]; exact ((Bx.new' _ _ _ _ (by first | rfl | (simp; done))).alloc _)
 have Bl1z : Bx w1 (w.heap.size + 1 + 1) 38 #[.bool false, .slice none 0 0, .slice none 0 0] := by rw [hW]; exact (Bx.new' _ _ _ _ (by first | rfl | (simp; done)))
 replace hs := hs1
 clear hs1
 have Blx := Bl1x
 clear Bl1x
 have Bly := Bl1y
 clear Bl1y
 have Blz := Bl1z
 clear Bl1z
 replace hx := hx.keep hk
 replace hy := hy.keep hk
 clear hW hk hsz
 have hz_w1 := Blz.lt
 have hb := bDrew w1
 replace hs := bStep hs hb
 replace Blx := Blx.mono hb
 replace Bly := Bly.mono hb
 replace Blz := Blz.mono hb
 replace hx := hx.mono hb
 replace hy := hy.mono hb
 clear hb
 have B0 := Blx.a0
 have B1 := Blx.a1
 have B2 := Blx.a2
 have B3 := Bly.a0
 have B4 := Bly.a1
 have B5 := Bly.a2
 go_region_held3 (fun w' => w'.cell? ⟨w.heap.size, 0, none⟩ = some (.bool gx) ∧ w'.cell? ⟨w.heap.size, 1, none⟩ = some (.slice ax nx cx) ∧ w'.cell? ⟨w.heap.size, 2, none⟩ = some (.slice Ax Nx Cx) ∧ w'.cell? ⟨w.heap.size + 1, 0, none⟩ = some (.bool gy) ∧ w'.cell? ⟨w.heap.size + 1, 1, none⟩ = some (.slice ay ny cy) ∧ w'.cell? ⟨w.heap.size + 1, 2, none⟩ = some (.slice Ay Ny Cy))
  (first | exact ⟨B0, B1, B2, B3, B4, B5⟩ | exact ⟨cellO (cellO (cellO (B0) (by first | omega | (have := hs.size; simp; done) | (have := hs.size; simp; omega))) (by first | omega | (have := hs.size; simp; done) | (have := hs.size; simp; omega))) (by first | omega | (have := hs.size; simp; done) | (have := hs.size; simp; omega)), cellO (cellO (cellO (B1) (by first | omega | (have := hs.size; simp; done) | (have := hs.size; simp; omega))) (by first | omega | (have := hs.size; simp; done) | (have := hs.size; simp; omega))) (by first | omega | (have := hs.size; simp; done) | (have := hs.size; simp; omega)), cellO (cellO (cellO (B2) (by first | omega | (have := hs.size; simp; done) | (have := hs.size; simp; omega))) (by first | omega | (have := hs.size; simp; done) | (have := hs.size; simp; omega))) (by first | omega | (have := hs.size; simp; done) | (have := hs.size; simp; omega)), cellO (cellO (cellO (B3) (by first | omega | (have := hs.size; simp; done) | (have := hs.size; simp; omega))) (by first | omega | (have := hs.size; simp; done) | (have := hs.size; simp; omega))) (by first | omega | (have := hs.size; simp; done) | (have := hs.size; simp; omega)), cellO (cellO (cellO (B4) (by first | omega | (have := hs.size; simp; done) | (have := hs.size; simp; omega))) (by first | omega | (have := hs.size; simp; done) | (have := hs.size; simp; omega))) (by first | omega | (have := hs.size; simp; done) | (have := hs.size; simp; omega)), cellO (cellO (cellO (B5) (by first | omega | (have := hs.size; simp; done) | (have := hs.size; simp; omega))) (by first | omega | (have := hs.size; simp; done) | (have := hs.size; simp; omega))) (by first | omega | (have := hs.size; simp; done) | (have := hs.size; simp; omega))⟩ | exact ⟨cellA B0 _, cellA B1 _, cellA B2 _, cellA B3 _, cellA B4 _, cellA B5 _⟩ | go_keep)
  (first
   | (go_at_call 64; (with_reducible refine (rSub hy hx fy fx).mono ?_); rintro e w2 ⟨_, rfl, hd, hb⟩; obtain ⟨shd, ahd, nhd, chd, Ahd, Nhd, Chd, rfl⟩ := hd.shape; replace hs := bStep hs hb; replace Blx := Blx.mono hb; replace Bly := Bly.mono hb; replace Blz := Blz.mono hb; replace hx := hx.mono hb; replace hy := hy.mono hb; replace B0 := cellK B0 hb; replace B1 := cellK B1 hb; replace B2 := cellK B2 hb; replace B3 := cellK B3 hb; replace B4 := cellK B4 hb; replace B5 := cellK B5 hb; clear hb)
   | (go_at_call 62; (with_reducible refine (rAdd hx hy fx fy).mono ?_); rintro e w3 ⟨_, rfl, hm, hb⟩; obtain ⟨shm, ahm, nhm, chm, Ahm, Nhm, Chm, rfl⟩ := hm.shape; replace hs := bStep hs hb; replace Blx := Blx.mono hb; replace Bly := Bly.mono hb; replace Blz := Blz.mono hb; replace hx := hx.mono hb; replace hy := hy.mono hb; replace hd := hd.mono hb; replace B0 := cellK B0 hb; replace B1 := cellK B1 hb; replace B2 := cellK B2 hb; replace B3 := cellK B3 hb; replace B4 := cellK B4 hb; replace B5 := cellK B5 hb; clear hb)
   | (go_at_call 65; (with_reducible refine (r7_quotient _ _ _ _ _ hd hm f1 f2 h0).mono ?_); rintro e w4 ⟨_, rfl, hQ, hb⟩; obtain ⟨shQ, ahQ, nhQ, chQ, AhQ, NhQ, ChQ, rfl⟩ := hQ.shape; replace hs := bStep hs hb; replace Blx := Blx.mono hb; replace Bly := Bly.mono hb; replace Blz := Blz.mono hb; replace hx := hx.mono hb; replace hy := hy.mono hb; replace hd := hd.mono hb; replace hm := hm.mono hb; replace B0 := cellK B0 hb; replace B1 := cellK B1 hb; replace B2 := cellK B2 hb; replace B3 := cellK B3 hb; replace B4 := cellK B4 hb; replace B5 := cellK B5 hb; clear hb; have B6 : w4.cell? ⟨w.heap.size + 1 + 1, 0, none⟩ = some (.bool false) := Blz.at 0 rfl; have B7 : w4.cell? ⟨w.heap.size + 1 + 1, 1, none⟩ = some (.slice none 0 0) := Blz.at 1 rfl; have B8 : w4.cell? ⟨w.heap.size + 1 + 1, 2, none⟩ = some (.slice none 0 0) := Blz.at 2 rfl; have fz := Blz.free; have Lz : w.heap.size + 1 + 1 < w4.heap.size := Blz.lt))
 clear B0 B1 B2 B3 B4 B5
 go_wp2
 refine bodyPost.abs ?_
 intro w5 hW
 have hsz := hs.size
 have lx := Blx.lt
 have ly := Bly.lt
 have lz := Blz.lt
 have hs1 : Below w.heap.size w w5 := by rw [hW]; exact (Below.setCell (Below.setCell (Below.setCell hs (by first | exact Nat.le_refl _ | omega | (have := hs.size; simp; done) | (have := hs.size; simp; omega)) _) (by first | exact Nat.le_refl _ | omega | (have := hs.size; simp; done) | (have := hs.size; simp; omega)) _) (by first | exact Nat.le_refl _ | omega | (have := hs.size; simp; done) | (have := hs.size; simp; omega)) _)
 have hk : KeepD w4 w5 := by rw [hW]; exact (KeepD.set (KeepD.set (KeepD.set (KeepD.refl _) Blz.ty (by decide) _ _) (TyB.store Blz.ty _ _) (by decide) _ _) (TyB.store (TyB.store Blz.ty _ _) _ _) (by decide) _ _)
 have Bl1x : Bx w5 (w.heap.size) 38 #[.bool gx, .slice ax nx cx, .slice Ax Nx Cx] := by rw [hW]; exact (Bx.far (Bx.far (Bx.far Blx (by first | omega | (simp; done) | (simp; omega)) _) (by first | omega | (simp; done) | (simp; omega)) _) (by first | omega | (simp; done) | (simp; omega)) _)
 have Bl1y : Bx w5 (w.heap.size + 1) 38 #[.bool gy, .slice ay ny cy, .slice Ay Ny Cy] := by rw [hW]; exact (Bx.far (Bx.far (Bx.far Bly (by first | omega | (simp; done) | (simp; omega)) _) (by first | omega | (simp; done) | (simp; omega)) _) (by first | omega | (simp; done) | (simp; omega)) _)
 have Bl1z : Bx w5 (w.heap.size + 1 + 1) 38 #[.bool shQ, .slice ahQ nhQ chQ, .slice AhQ NhQ ChQ] := by rw [hW]; exact (Bx.set (Bx.set (Bx.set Blz 0 _ rfl) 1 _ rfl) 2 _ rfl)
 replace hs := hs1
 clear hs1
 replace Blx := Bl1x
 clear Bl1x
 replace Bly := Bl1y
 clear Bl1y
 replace Blz := Bl1z
 clear Bl1z
 replace hx := hx.keep hk
 replace hy := hy.keep hk
 replace hd := hd.keep hk
 replace hm := hm.keep hk
 replace hQ := hQ.keep hk
 clear hW hk hsz lx ly lz
 exact ret_RB rfl rfl rfl Blz hQ hs
end Go.Proofs.YtkfekkhhfpkfaaaGreat
namespace Go.Proofs.YtkfekkhhfpkfaaaGreat
open Go.RowKit Dg
attribute [local go_sem ↓] Go.wp_at_zero Go.wp_at_succ
def allPos (l : List Rat) : Bool := l.all fun x => decide (0 < x)
theorem allPos_take (l : List Rat) (k : Nat) (x : Rat) (h : l[k]? = some x) (ht : allPos (l.take k) = true) : allPos (l.take (k + 1)) = decide (0 < x) := by
 have hk : k < l.length := (List.getElem?_eq_some_iff.1 h).1
 have hx : l[k] = x := (List.getElem?_eq_some_iff.1 h).2
 unfold allPos at *
 rw [List.take_succ_eq_append_getElem hk, List.all_append, ht, hx]
 simp
theorem allPos_false (l : List Rat) (k : Nat) (h : allPos (l.take k) = false) : allPos l = false := by
 unfold allPos at *
 rw [List.all_eq_false] at *
 obtain ⟨x, hx, h⟩ := h
 exact ⟨x, List.mem_of_mem_take hx, h⟩
theorem sc_above (v : Value) (l : List Rat) (w : World) (hl : Rows 3 32 PC w v l) : Calls Tryz.prog 51 #[v] w (RetV w (.bool (allPos l))) := by
 obtain ⟨ao, cap, rfl, hc1, hc2, hc3⟩ := hl.slice
 have hs := Below.refl w.heap.size w
 have HL := Lib.hid hl
 clear hl
 go_enter Tryz.func51, Tryz.ntmps51
 go_wp2
 go_loopw [7] (fun iv wr => ∃ k : Nat, k ≤ l.length ∧ iv = .int .i64 k ∧ allPos (l.take k) = true ∧ Below w.heap.size w wr) (fun iv _ => l.length - (intOf iv).toNat)
 case atStart => exact ⟨0, Nat.zero_le _, rfl, rfl, hs⟩
 case round =>
  obtain ⟨k, hk, rfl, hp, hs⟩ := hrel
  have HP := Lib.hid hp
  clear hp
  by_cases hlt : k < l.length
  ·obtain ⟨x, hx⟩ : ∃ x, l[k]? = some x := ⟨_, List.getElem?_eq_getElem hlt⟩
   obtain ⟨b, o, c, cs, hv, hlen, hat, ca, cb, cc, rfl, hpv⟩ := (HL.out.mono PC.kept hs).get hx
   obtain ⟨rfl, rfl⟩ := sliceE hv
   obtain ⟨gx, ax, nx, cx, Ax, Nx, Cx, e⟩ := hpv.shape
   obtain ⟨rfl, rfl, rfl⟩ := agg3 e
   have e0 := hat 0 _ rfl
   have e1 := hat 1 _ rfl
   have e2 := hat 2 _ rfl
   clear hat
   simp only [Nat.add_zero] at e0
   go_wp2_with fail
   clear e0 e1 e2
   refine Calls.abs ?_
   intro w1 hW
   have hsz := hs.size
   have hs1 : Below w.heap.size w w1 := by rw [hW]; exact (Below.alloc hs (by first | exact hs.size | (have := hs.size; simp; done) | (have := hs.size; simp; omega)) _)
   have hk : KeepD wr w1 := by rw [hW]; exact ((KeepD.refl _).alloc _)
   have Bl1x : Bx w1 (wr.heap.size) 32 #[.bool gx, .slice ax nx cx, .slice Ax Nx Cx] := by rw [hW]; exact (Bx.new' _ _ _ _ (by first | rfl | (simp; done)))
   replace hs := hs1
   clear hs1
   have Blx := Bl1x
   clear Bl1x
   replace hpv := hpv.keep hk
   clear hW hk hsz
   have hz_w1 := Blx.lt
   refine (pSign hpv).mono ?_
   rintro e w2 ⟨rfl, hb⟩
   replace hs := bStep hs hb
   replace Blx := Blx.mono hb
   replace hpv := hpv.mono hb
   clear hb
   have hsg := sgQ_le x
   generalize sgQ x = sg at *
   have HS := Lib.hid hsg
   clear hsg
   by_cases h0 : 0 < x
   ·have hn : ¬ sg ≤ 0 := fun h => HS.out.1 h h0
    have HT := Lib.hid ((allPos_take l k x hx HP.out).trans (decide_eq_true h0))
    go_wp2
    go_roundw
    case rel => exact ⟨k + 1, by omega, by go_num, HT.out, hs⟩
    all_goals first | (simp [intOf]; done) | (simp [intOf]; omega)
   ·have hn : sg ≤ 0 := HS.out.2 h0
    have HT := Lib.hid (allPos_false l (k + 1) ((allPos_take l k x hx HP.out).trans (decide_eq_false h0)))
    go_wp2
    go_ret
    exact ⟨by rw [HT.out]; rfl, hs⟩
  ·go_wp2
   go_ret
   have hp := HP.out
   rw [List.take_of_length_le (by omega)] at hp
   exact ⟨by rw [hp]; rfl, hs⟩
end Go.Proofs.YtkfekkhhfpkfaaaGreat
