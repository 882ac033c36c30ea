/-
  scan.Follow at any trace and gate.
-/
import Derived.Test.YtkfekkhhfpkfaaaGreatPkPeakB
set_option linter.unusedSimpArgs false
set_option linter.unusedVariables false
namespace Go.Proofs.YtkfekkhhfpkfaaaGreat
open Go.RowKit Dg
attribute [local go_sem ↓] Go.wp_at_zero Go.wp_at_succ

theorem run_store_float {P : Program} {w : World} {a : Addr} {m : Mode} (k : FloatKind) (b : Nat) : (store a (.float k b) m).run P w = stored P w a (.float k b) m := run_store P w a _ m rfl
attribute [local go_sem] run_store_float
set_option maxRecDepth 100000 in
set_option maxHeartbeats 4000000 in
theorem sc_Follow_e1 (ao : Option Addr) (N cap : Nat) (f t a b : Int) (lv lw : Nat) (n pe : Int) (q : Rat) (w : World) (hpe : pe ≠ 0)
    (hp : ∀ w' : World, Below w.heap.size w w' → Calls Tryz.prog 14 #[.slice ao N cap, .agg #[.int .i64 f, .int .i64 t, .float .f32 lv]] w' (Ret3 (fun _ v => v = .int .i64 n) (fun w v => PV w v q) (fun _ v => v = .int .i64 pe) w')) :
    Calls Tryz.prog 19 #[.slice ao N cap, .agg #[.int .i64 f, .int .i64 t, .float .f32 lv], .int .i64 a, .int .i64 b, .float .f32 lw] w (Ret2 (fun _ v => v = .agg #[.int .i64 0, .int .i64 0, .float .f32 0]) (fun _ v => v = .int .i64 pe) w) := by
  have hs := Below.refl w.heap.size w
  have HP := Lib.hid hp
  have d1 : (pe == 0) = false := by simpa using hpe
  have d2 : (pe != 0) = true := by simpa using hpe
  clear hpe
  clear hp
  go_enter Tryz.func19, Tryz.ntmps19
  go_wp2_with fail
  refine Calls.abs ?_
  intro w1 hW
  have hsz := hs.size
  have hbw : Below w.heap.size w w1 := by rw [hW]; exact (Below.alloc (Below.alloc (Below.refl w.heap.size w) (by first | exact hs.size | (have := hs.size; simp; done) | (have := hs.size; simp; omega)) _) (by first | exact hs.size | (have := hs.size; simp; done) | (have := hs.size; simp; omega)) _)
  have hs1 : Below w.heap.size w w1 := hs.trans hbw
  have hk : KeepD w w1 := by rw [hW]; exact (((KeepD.refl _).alloc _).alloc _)
  have Bl1g : Bx w1 (w.heap.size) 47 #[.int .i64 f, .int .i64 t, .float .f32 lv] := by rw [hW]; exact ((Bx.new' _ _ _ _ (by first | rfl | (simp; done))).alloc _)
  have Bl1r : Bx w1 (w.heap.size + 1) 47 #[.int .i64 0, .int .i64 0, .float .f32 0] := by rw [hW]; exact (Bx.new' _ _ _ _ (by first | rfl | (simp; done)))
  replace hs := hs1
  clear hs1
  have Blg := Bl1g
  clear Bl1g
  have Blr := Bl1r
  clear Bl1r
  clear hW hk hsz hbw
  have hz_w1 : w.heap.size + 1 < w1.heap.size := Blr.lt
  refine (HP.out _ hs).mono ?_
  rintro e w2 ⟨_, _, _, rfl, rfl, hq, rfl, hb⟩
  obtain ⟨shq, ahq, nhq, chq, Ahq, Nhq, Chq, rfl⟩ := hq.shape
  replace hs := bStep hs hb
  replace Blg := Blg.mono hb
  replace Blr := Blr.mono hb
  clear hb
  have cr_0 : w2.cell? ⟨w.heap.size + 1, 0, none⟩ = some (.int .i64 0) := Blr.at 0 rfl
  have cr_1 : w2.cell? ⟨w.heap.size + 1, 1, none⟩ = some (.int .i64 0) := Blr.at 1 rfl
  have cr_2 : w2.cell? ⟨w.heap.size + 1, 2, none⟩ = some (.float .f32 0) := Blr.at 2 rfl
  have fr := Blr.free
  have Lr : w.heap.size + 1 < w2.heap.size := Blr.lt
  go_wp2
  refine bodyPost.abs ?_
  intro w3 hW
  have hsz := hs.size
  have lg := Blg.lt
  have lr := Blr.lt
  have hbw : Below w.heap.size w2 w3 := by rw [hW]; exact (Below.alloc (Below.setCell (Below.setCell (Below.setCell (Below.refl w.heap.size w2) (by first | exact Nat.le_refl _ | omega | (have := hs.size; simp; done) | (have := hs.size; simp; omega)) _) (by first | exact Nat.le_refl _ | omega | (have := hs.size; simp; done) | (have := hs.size; simp; omega)) _) (by first | exact Nat.le_refl _ | omega | (have := hs.size; simp; done) | (have := hs.size; simp; omega)) _) (by first | exact hs.size | (have := hs.size; simp; done) | (have := hs.size; simp; omega)) _)
  have hs1 : Below w.heap.size w w3 := hs.trans hbw
  have hk : KeepD w2 w3 := by rw [hW]; exact ((KeepD.set (KeepD.set (KeepD.set (KeepD.refl _) Blr.ty (by decide) _ _) (TyB.store Blr.ty _ _) (by decide) _ _) (TyB.store (TyB.store Blr.ty _ _) _ _) (by decide) _ _).alloc _)
  have Bl1g : Bx w3 (w.heap.size) 47 #[.int .i64 f, .int .i64 t, .float .f32 lv] := by rw [hW]; exact ((Bx.far (Bx.far (Bx.far Blg (by first | omega | (simp; done) | (simp; omega)) _) (by first | omega | (simp; done) | (simp; omega)) _) (by first | omega | (simp; done) | (simp; omega)) _).alloc _)
  have Bl1r : Bx w3 (w.heap.size + 1) 47 #[.int .i64 0, .int .i64 0, .float .f32 0] := by rw [hW]; exact ((Bx.set (Bx.set (Bx.set Blr 0 _ rfl) 1 _ rfl) 2 _ rfl).alloc _)
  have Bl1x : Bx w3 (w2.heap.size) 32 #[.bool shq, .slice ahq nhq chq, .slice Ahq Nhq Chq] := by rw [hW]; exact (Bx.new' _ _ _ _ (by first | rfl | (simp; done)))
  replace hs := hs1
  clear hs1
  replace Blg := Bl1g
  clear Bl1g
  replace Blr := Bl1r
  clear Bl1r
  have Blx := Bl1x
  clear Bl1x
  clear hW hk hsz hbw lg lr
  have hz_w3 : w2.heap.size < w3.heap.size := Blx.lt
  have cr_0 : w3.cell? ⟨w.heap.size + 1, 0, none⟩ = some (.int .i64 0) := Blr.at 0 rfl
  have cr_1 : w3.cell? ⟨w.heap.size + 1, 1, none⟩ = some (.int .i64 0) := Blr.at 1 rfl
  have cr_2 : w3.cell? ⟨w.heap.size + 1, 2, none⟩ = some (.float .f32 0) := Blr.at 2 rfl
  exact bodyPost_ret (v := .tuple #[.agg #[.int .i64 0, .int .i64 0, .float .f32 0], .int .i64 pe]) (by simp [results, Tryz.results19, go_sem, cr_0, cr_1, cr_2]) rfl ⟨_, _, rfl, rfl, rfl, hs⟩
set_option maxRecDepth 100000 in
set_option maxHeartbeats 4000000 in
theorem sc_Follow_e2 (ao : Option Addr) (N cap : Nat) (f t a b : Int) (lv lw : Nat) (n pe : Int) (q : Rat) (w : World) (hN : N ≤ 256) (hn0 : 0 ≤ n) (hn1 : n < N) (hpe : pe = 0) (h1 : a < -n)
    (hp : ∀ w' : World, Below w.heap.size w w' → Calls Tryz.prog 14 #[.slice ao N cap, .agg #[.int .i64 f, .int .i64 t, .float .f32 lv]] w' (Ret3 (fun _ v => v = .int .i64 n) (fun w v => PV w v q) (fun _ v => v = .int .i64 pe) w')) :
    Calls Tryz.prog 19 #[.slice ao N cap, .agg #[.int .i64 f, .int .i64 t, .float .f32 lv], .int .i64 a, .int .i64 b, .float .f32 lw] w (Ret2 (fun _ v => v = .agg #[.int .i64 0, .int .i64 0, .float .f32 0]) (fun _ v => v = .int .i64 1) w) := by
  have hs := Below.refl w.heap.size w
  have HP := Lib.hid hp
  subst hpe
  have d1 : (a < -n) = True := eq_true (by omega)
  clear hp
  go_enter Tryz.func19, Tryz.ntmps19
  go_wp2_with fail
  refine Calls.abs ?_
  intro w1 hW
  have hsz := hs.size
  have hbw : Below w.heap.size w w1 := by rw [hW]; exact (Below.alloc (Below.alloc (Below.refl w.heap.size w) (by first | exact hs.size | (have := hs.size; simp; done) | (have := hs.size; simp; omega)) _) (by first | exact hs.size | (have := hs.size; simp; done) | (have := hs.size; simp; omega)) _)
  have hs1 : Below w.heap.size w w1 := hs.trans hbw
  have hk : KeepD w w1 := by rw [hW]; exact (((KeepD.refl _).alloc _).alloc _)
  have Bl1g : Bx w1 (w.heap.size) 47 #[.int .i64 f, .int .i64 t, .float .f32 lv] := by rw [hW]; exact ((Bx.new' _ _ _ _ (by first | rfl | (simp; done))).alloc _)
  have Bl1r : Bx w1 (w.heap.size + 1) 47 #[.int .i64 0, .int .i64 0, .float .f32 0] := by rw [hW]; exact (Bx.new' _ _ _ _ (by first | rfl | (simp; done)))
  replace hs := hs1
  clear hs1
  have Blg := Bl1g
  clear Bl1g
  have Blr := Bl1r
  clear Bl1r
  clear hW hk hsz hbw
  have hz_w1 : w.heap.size + 1 < w1.heap.size := Blr.lt
  refine (HP.out _ hs).mono ?_
  rintro e w2 ⟨_, _, _, rfl, rfl, hq, rfl, hb⟩
  obtain ⟨shq, ahq, nhq, chq, Ahq, Nhq, Chq, rfl⟩ := hq.shape
  replace hs := bStep hs hb
  replace Blg := Blg.mono hb
  replace Blr := Blr.mono hb
  clear hb
  have cr_0 : w2.cell? ⟨w.heap.size + 1, 0, none⟩ = some (.int .i64 0) := Blr.at 0 rfl
  have cr_1 : w2.cell? ⟨w.heap.size + 1, 1, none⟩ = some (.int .i64 0) := Blr.at 1 rfl
  have cr_2 : w2.cell? ⟨w.heap.size + 1, 2, none⟩ = some (.float .f32 0) := Blr.at 2 rfl
  have fr := Blr.free
  have Lr : w.heap.size + 1 < w2.heap.size := Blr.lt
  go_wp2
  refine bodyPost.abs ?_
  intro w3 hW
  have hsz := hs.size
  have lg := Blg.lt
  have lr := Blr.lt
  have hbw : Below w.heap.size w2 w3 := by rw [hW]; exact (Below.alloc (Below.setCell (Below.setCell (Below.setCell (Below.refl w.heap.size w2) (by first | exact Nat.le_refl _ | omega | (have := hs.size; simp; done) | (have := hs.size; simp; omega)) _) (by first | exact Nat.le_refl _ | omega | (have := hs.size; simp; done) | (have := hs.size; simp; omega)) _) (by first | exact Nat.le_refl _ | omega | (have := hs.size; simp; done) | (have := hs.size; simp; omega)) _) (by first | exact hs.size | (have := hs.size; simp; done) | (have := hs.size; simp; omega)) _)
  have hs1 : Below w.heap.size w w3 := hs.trans hbw
  have hk : KeepD w2 w3 := by rw [hW]; exact ((KeepD.set (KeepD.set (KeepD.set (KeepD.refl _) Blr.ty (by decide) _ _) (TyB.store Blr.ty _ _) (by decide) _ _) (TyB.store (TyB.store Blr.ty _ _) _ _) (by decide) _ _).alloc _)
  have Bl1g : Bx w3 (w.heap.size) 47 #[.int .i64 f, .int .i64 t, .float .f32 lv] := by rw [hW]; exact ((Bx.far (Bx.far (Bx.far Blg (by first | omega | (simp; done) | (simp; omega)) _) (by first | omega | (simp; done) | (simp; omega)) _) (by first | omega | (simp; done) | (simp; omega)) _).alloc _)
  have Bl1r : Bx w3 (w.heap.size + 1) 47 #[.int .i64 0, .int .i64 0, .float .f32 0] := by rw [hW]; exact ((Bx.set (Bx.set (Bx.set Blr 0 _ rfl) 1 _ rfl) 2 _ rfl).alloc _)
  have Bl1x : Bx w3 (w2.heap.size) 32 #[.bool shq, .slice ahq nhq chq, .slice Ahq Nhq Chq] := by rw [hW]; exact (Bx.new' _ _ _ _ (by first | rfl | (simp; done)))
  replace hs := hs1
  clear hs1
  replace Blg := Bl1g
  clear Bl1g
  replace Blr := Bl1r
  clear Bl1r
  have Blx := Bl1x
  clear Bl1x
  clear hW hk hsz hbw lg lr
  have hz_w3 : w2.heap.size < w3.heap.size := Blx.lt
  have cr_0 : w3.cell? ⟨w.heap.size + 1, 0, none⟩ = some (.int .i64 0) := Blr.at 0 rfl
  have cr_1 : w3.cell? ⟨w.heap.size + 1, 1, none⟩ = some (.int .i64 0) := Blr.at 1 rfl
  have cr_2 : w3.cell? ⟨w.heap.size + 1, 2, none⟩ = some (.float .f32 0) := Blr.at 2 rfl
  exact bodyPost_ret (v := .tuple #[.agg #[.int .i64 0, .int .i64 0, .float .f32 0], .int .i64 1]) (by simp [results, Tryz.results19, go_sem, cr_0, cr_1, cr_2]) rfl ⟨_, _, rfl, rfl, rfl, hs⟩
set_option maxRecDepth 100000 in
set_option maxHeartbeats 4000000 in
theorem sc_Follow_e3 (ao : Option Addr) (N cap : Nat) (f t a b : Int) (lv lw : Nat) (n pe : Int) (q : Rat) (w : World) (hN : N ≤ 256) (hn0 : 0 ≤ n) (hn1 : n < N) (hpe : pe = 0) (h1 : ¬ a < -n) (h2 : N - n < b)
    (hp : ∀ w' : World, Below w.heap.size w w' → Calls Tryz.prog 14 #[.slice ao N cap, .agg #[.int .i64 f, .int .i64 t, .float .f32 lv]] w' (Ret3 (fun _ v => v = .int .i64 n) (fun w v => PV w v q) (fun _ v => v = .int .i64 pe) w')) :
    Calls Tryz.prog 19 #[.slice ao N cap, .agg #[.int .i64 f, .int .i64 t, .float .f32 lv], .int .i64 a, .int .i64 b, .float .f32 lw] w (Ret2 (fun _ v => v = .agg #[.int .i64 0, .int .i64 0, .float .f32 0]) (fun _ v => v = .int .i64 1) w) := by
  have hs := Below.refl w.heap.size w
  have HP := Lib.hid hp
  subst hpe
  have d1 : (a < -n) = False := eq_false (by omega)
  have d2 : ((N : Int) - n < b) = True := eq_true (by omega)
  clear hp
  go_enter Tryz.func19, Tryz.ntmps19
  go_wp2_with fail
  refine Calls.abs ?_
  intro w1 hW
  have hsz := hs.size
  have hbw : Below w.heap.size w w1 := by rw [hW]; exact (Below.alloc (Below.alloc (Below.refl w.heap.size w) (by first | exact hs.size | (have := hs.size; simp; done) | (have := hs.size; simp; omega)) _) (by first | exact hs.size | (have := hs.size; simp; done) | (have := hs.size; simp; omega)) _)
  have hs1 : Below w.heap.size w w1 := hs.trans hbw
  have hk : KeepD w w1 := by rw [hW]; exact (((KeepD.refl _).alloc _).alloc _)
  have Bl1g : Bx w1 (w.heap.size) 47 #[.int .i64 f, .int .i64 t, .float .f32 lv] := by rw [hW]; exact ((Bx.new' _ _ _ _ (by first | rfl | (simp; done))).alloc _)
  have Bl1r : Bx w1 (w.heap.size + 1) 47 #[.int .i64 0, .int .i64 0, .float .f32 0] := by rw [hW]; exact (Bx.new' _ _ _ _ (by first | rfl | (simp; done)))
  replace hs := hs1
  clear hs1
  have Blg := Bl1g
  clear Bl1g
  have Blr := Bl1r
  clear Bl1r
  clear hW hk hsz hbw
  have hz_w1 : w.heap.size + 1 < w1.heap.size := Blr.lt
  refine (HP.out _ hs).mono ?_
  rintro e w2 ⟨_, _, _, rfl, rfl, hq, rfl, hb⟩
  obtain ⟨shq, ahq, nhq, chq, Ahq, Nhq, Chq, rfl⟩ := hq.shape
  replace hs := bStep hs hb
  replace Blg := Blg.mono hb
  replace Blr := Blr.mono hb
  clear hb
  have cr_0 : w2.cell? ⟨w.heap.size + 1, 0, none⟩ = some (.int .i64 0) := Blr.at 0 rfl
  have cr_1 : w2.cell? ⟨w.heap.size + 1, 1, none⟩ = some (.int .i64 0) := Blr.at 1 rfl
  have cr_2 : w2.cell? ⟨w.heap.size + 1, 2, none⟩ = some (.float .f32 0) := Blr.at 2 rfl
  have fr := Blr.free
  have Lr : w.heap.size + 1 < w2.heap.size := Blr.lt
  go_wp2
  refine bodyPost.abs ?_
  intro w3 hW
  have hsz := hs.size
  have lg := Blg.lt
  have lr := Blr.lt
  have hbw : Below w.heap.size w2 w3 := by rw [hW]; exact (Below.alloc (Below.setCell (Below.setCell (Below.setCell (Below.refl w.heap.size w2) (by first | exact Nat.le_refl _ | omega | (have := hs.size; simp; done) | (have := hs.size; simp; omega)) _) (by first | exact Nat.le_refl _ | omega | (have := hs.size; simp; done) | (have := hs.size; simp; omega)) _) (by first | exact Nat.le_refl _ | omega | (have := hs.size; simp; done) | (have := hs.size; simp; omega)) _) (by first | exact hs.size | (have := hs.size; simp; done) | (have := hs.size; simp; omega)) _)
  have hs1 : Below w.heap.size w w3 := hs.trans hbw
  have hk : KeepD w2 w3 := by rw [hW]; exact ((KeepD.set (KeepD.set (KeepD.set (KeepD.refl _) Blr.ty (by decide) _ _) (TyB.store Blr.ty _ _) (by decide) _ _) (TyB.store (TyB.store Blr.ty _ _) _ _) (by decide) _ _).alloc _)
  have Bl1g : Bx w3 (w.heap.size) 47 #[.int .i64 f, .int .i64 t, .float .f32 lv] := by rw [hW]; exact ((Bx.far (Bx.far (Bx.far Blg (by first | omega | (simp; done) | (simp; omega)) _) (by first | omega | (simp; done) | (simp; omega)) _) (by first | omega | (simp; done) | (simp; omega)) _).alloc _)
  have Bl1r : Bx w3 (w.heap.size + 1) 47 #[.int .i64 0, .int .i64 0, .float .f32 0] := by rw [hW]; exact ((Bx.set (Bx.set (Bx.set Blr 0 _ rfl) 1 _ rfl) 2 _ rfl).alloc _)
  have Bl1x : Bx w3 (w2.heap.size) 32 #[.bool shq, .slice ahq nhq chq, .slice Ahq Nhq Chq] := by rw [hW]; exact (Bx.new' _ _ _ _ (by first | rfl | (simp; done)))
  replace hs := hs1
  clear hs1
  replace Blg := Bl1g
  clear Bl1g
  replace Blr := Bl1r
  clear Bl1r
  have Blx := Bl1x
  clear Bl1x
  clear hW hk hsz hbw lg lr
  have hz_w3 : w2.heap.size < w3.heap.size := Blx.lt
  have cr_0 : w3.cell? ⟨w.heap.size + 1, 0, none⟩ = some (.int .i64 0) := Blr.at 0 rfl
  have cr_1 : w3.cell? ⟨w.heap.size + 1, 1, none⟩ = some (.int .i64 0) := Blr.at 1 rfl
  have cr_2 : w3.cell? ⟨w.heap.size + 1, 2, none⟩ = some (.float .f32 0) := Blr.at 2 rfl
  exact bodyPost_ret (v := .tuple #[.agg #[.int .i64 0, .int .i64 0, .float .f32 0], .int .i64 1]) (by simp [results, Tryz.results19, go_sem, cr_0, cr_1, cr_2]) rfl ⟨_, _, rfl, rfl, rfl, hs⟩
set_option maxRecDepth 100000 in
set_option maxHeartbeats 4000000 in
theorem sc_Follow_e4 (ao : Option Addr) (N cap : Nat) (f t a b : Int) (lv lw : Nat) (n pe : Int) (q : Rat) (w : World) (hN : N ≤ 256) (hn0 : 0 ≤ n) (hn1 : n < N) (hpe : pe = 0) (h1 : ¬ a < -n) (h2 : ¬ N - n < b) (h3 : b ≤ a)
    (hp : ∀ w' : World, Below w.heap.size w w' → Calls Tryz.prog 14 #[.slice ao N cap, .agg #[.int .i64 f, .int .i64 t, .float .f32 lv]] w' (Ret3 (fun _ v => v = .int .i64 n) (fun w v => PV w v q) (fun _ v => v = .int .i64 pe) w')) :
    Calls Tryz.prog 19 #[.slice ao N cap, .agg #[.int .i64 f, .int .i64 t, .float .f32 lv], .int .i64 a, .int .i64 b, .float .f32 lw] w (Ret2 (fun _ v => v = .agg #[.int .i64 0, .int .i64 0, .float .f32 0]) (fun _ v => v = .int .i64 1) w) := by
  have hs := Below.refl w.heap.size w
  have HP := Lib.hid hp
  subst hpe
  have d1 : (a < -n) = False := eq_false (by omega)
  have d2 : ((N : Int) - n < b) = False := eq_false (by omega)
  have d3 : (b ≤ a) = True := eq_true (by omega)
  clear hp
  go_enter Tryz.func19, Tryz.ntmps19
  go_wp2_with fail
  refine Calls.abs ?_
  intro w1 hW
  have hsz := hs.size
  have hbw : Below w.heap.size w w1 := by rw [hW]; exact (Below.alloc (Below.alloc (Below.refl w.heap.size w) (by first | exact hs.size | (have := hs.size; simp; done) | (have := hs.size; simp; omega)) _) (by first | exact hs.size | (have := hs.size; simp; done) | (have := hs.size; simp; omega)) _)
  have hs1 : Below w.heap.size w w1 := hs.trans hbw
  have hk : KeepD w w1 := by rw [hW]; exact (((KeepD.refl _).alloc _).alloc _)
  have Bl1g : Bx w1 (w.heap.size) 47 #[.int .i64 f, .int .i64 t, .float .f32 lv] := by rw [hW]; exact ((Bx.new' _ _ _ _ (by first | rfl | (simp; done))).alloc _)
  have Bl1r : Bx w1 (w.heap.size + 1) 47 #[.int .i64 0, .int .i64 0, .float .f32 0] := by rw [hW]; exact (Bx.new' _ _ _ _ (by first | rfl | (simp; done)))
  replace hs := hs1
  clear hs1
  have Blg := Bl1g
  clear Bl1g
  have Blr := Bl1r
  clear Bl1r
  clear hW hk hsz hbw
  have hz_w1 : w.heap.size + 1 < w1.heap.size := Blr.lt
  refine (HP.out _ hs).mono ?_
  rintro e w2 ⟨_, _, _, rfl, rfl, hq, rfl, hb⟩
  obtain ⟨shq, ahq, nhq, chq, Ahq, Nhq, Chq, rfl⟩ := hq.shape
  replace hs := bStep hs hb
  replace Blg := Blg.mono hb
  replace Blr := Blr.mono hb
  clear hb
  have cr_0 : w2.cell? ⟨w.heap.size + 1, 0, none⟩ = some (.int .i64 0) := Blr.at 0 rfl
  have cr_1 : w2.cell? ⟨w.heap.size + 1, 1, none⟩ = some (.int .i64 0) := Blr.at 1 rfl
  have cr_2 : w2.cell? ⟨w.heap.size + 1, 2, none⟩ = some (.float .f32 0) := Blr.at 2 rfl
  have fr := Blr.free
  have Lr : w.heap.size + 1 < w2.heap.size := Blr.lt
  go_wp2
  refine bodyPost.abs ?_
  intro w3 hW
  have hsz := hs.size
  have lg := Blg.lt
  have lr := Blr.lt
  have hbw : Below w.heap.size w2 w3 := by rw [hW]; exact (Below.alloc (Below.setCell (Below.setCell (Below.setCell (Below.refl w.heap.size w2) (by first | exact Nat.le_refl _ | omega | (have := hs.size; simp; done) | (have := hs.size; simp; omega)) _) (by first | exact Nat.le_refl _ | omega | (have := hs.size; simp; done) | (have := hs.size; simp; omega)) _) (by first | exact Nat.le_refl _ | omega | (have := hs.size; simp; done) | (have := hs.size; simp; omega)) _) (by first | exact hs.size | (have := hs.size; simp; done) | (have := hs.size; simp; omega)) _)
  have hs1 : Below w.heap.size w w3 := hs.trans hbw
  have hk : KeepD w2 w3 := by rw [hW]; exact ((KeepD.set (KeepD.set (KeepD.set (KeepD.refl _) Blr.ty (by decide) _ _) (TyB.store Blr.ty _ _) (by decide) _ _) (TyB.store (TyB.store Blr.ty _ _) _ _) (by decide) _ _).alloc _)
  have Bl1g : Bx w3 (w.heap.size) 47 #[.int .i64 f, .int .i64 t, .float .f32 lv] := by rw [hW]; exact ((Bx.far (Bx.far (Bx.far Blg (by first | omega | (simp; done) | (simp; omega)) _) (by first | omega | (simp; done) | (simp; omega)) _) (by first | omega | (simp; done) | (simp; omega)) _).alloc _)
  have Bl1r : Bx w3 (w.heap.size + 1) 47 #[.int .i64 0, .int .i64 0, .float .f32 0] := by rw [hW]; exact ((Bx.set (Bx.set (Bx.set Blr 0 _ rfl) 1 _ rfl) 2 _ rfl).alloc _)
  have Bl1x : Bx w3 (w2.heap.size) 32 #[.bool shq, .slice ahq nhq chq, .slice Ahq Nhq Chq] := by rw [hW]; exact (Bx.new' _ _ _ _ (by first | rfl | (simp; done)))
  replace hs := hs1
  clear hs1
  replace Blg := Bl1g
  clear Bl1g
  replace Blr := Bl1r
  clear Bl1r
  have Blx := Bl1x
  clear Bl1x
  clear hW hk hsz hbw lg lr
  have hz_w3 : w2.heap.size < w3.heap.size := Blx.lt
  have cr_0 : w3.cell? ⟨w.heap.size + 1, 0, none⟩ = some (.int .i64 0) := Blr.at 0 rfl
  have cr_1 : w3.cell? ⟨w.heap.size + 1, 1, none⟩ = some (.int .i64 0) := Blr.at 1 rfl
  have cr_2 : w3.cell? ⟨w.heap.size + 1, 2, none⟩ = some (.float .f32 0) := Blr.at 2 rfl
  exact bodyPost_ret (v := .tuple #[.agg #[.int .i64 0, .int .i64 0, .float .f32 0], .int .i64 1]) (by simp [results, Tryz.results19, go_sem, cr_0, cr_1, cr_2]) rfl ⟨_, _, rfl, rfl, rfl, hs⟩
set_option maxRecDepth 100000 in
set_option maxHeartbeats 4000000 in
theorem sc_Follow_e5 (ao : Option Addr) (N cap : Nat) (f t a b : Int) (lv lw : Nat) (n pe : Int) (q : Rat) (w : World) (hN : N ≤ 256) (hn0 : 0 ≤ n) (hn1 : n < N) (hpe : pe = 0) (h1 : ¬ a < -n) (h2 : ¬ N - n < b) (h3 : ¬ b ≤ a) (hg : gateE (n + a) (n + b) N lw = 1)
    (hp : ∀ w' : World, Below w.heap.size w w' → Calls Tryz.prog 14 #[.slice ao N cap, .agg #[.int .i64 f, .int .i64 t, .float .f32 lv]] w' (Ret3 (fun _ v => v = .int .i64 n) (fun w v => PV w v q) (fun _ v => v = .int .i64 pe) w')) :
    Calls Tryz.prog 19 #[.slice ao N cap, .agg #[.int .i64 f, .int .i64 t, .float .f32 lv], .int .i64 a, .int .i64 b, .float .f32 lw] w (Ret2 (fun _ v => v = .agg #[.int .i64 0, .int .i64 0, .float .f32 0]) (fun _ v => v = .int .i64 1) w) := by
  have hs := Below.refl w.heap.size w
  have HP := Lib.hid hp
  subst hpe
  have d1 : (a < -n) = False := eq_false (by omega)
  have d2 : ((N : Int) - n < b) = False := eq_false (by omega)
  have d3 : (b ≤ a) = False := eq_false (by omega)
  have wa : IntKind.i64.wrap (n + a) = n + a := IntWalk.i64_in _ (by omega)
  have wb : IntKind.i64.wrap (n + b) = n + b := IntWalk.i64_in _ (by omega)
  have HC := Lib.hid (fun w => hg ▸ sc_check (n + a) (n + b) (N : Int) lw w)
  clear hg
  clear hp
  go_enter Tryz.func19, Tryz.ntmps19
  go_wp2_with fail
  refine Calls.abs ?_
  intro w1 hW
  have hsz := hs.size
  have hbw : Below w.heap.size w w1 := by rw [hW]; exact (Below.alloc (Below.alloc (Below.refl w.heap.size w) (by first | exact hs.size | (have := hs.size; simp; done) | (have := hs.size; simp; omega)) _) (by first | exact hs.size | (have := hs.size; simp; done) | (have := hs.size; simp; omega)) _)
  have hs1 : Below w.heap.size w w1 := hs.trans hbw
  have hk : KeepD w w1 := by rw [hW]; exact (((KeepD.refl _).alloc _).alloc _)
  have Bl1g : Bx w1 (w.heap.size) 47 #[.int .i64 f, .int .i64 t, .float .f32 lv] := by rw [hW]; exact ((Bx.new' _ _ _ _ (by first | rfl | (simp; done))).alloc _)
  have Bl1r : Bx w1 (w.heap.size + 1) 47 #[.int .i64 0, .int .i64 0, .float .f32 0] := by rw [hW]; exact (Bx.new' _ _ _ _ (by first | rfl | (simp; done)))
  replace hs := hs1
  clear hs1
  have Blg := Bl1g
  clear Bl1g
  have Blr := Bl1r
  clear Bl1r
  clear hW hk hsz hbw
  have hz_w1 : w.heap.size + 1 < w1.heap.size := Blr.lt
  refine (HP.out _ hs).mono ?_
  rintro e w2 ⟨_, _, _, rfl, rfl, hq, rfl, hb⟩
  obtain ⟨shq, ahq, nhq, chq, Ahq, Nhq, Chq, rfl⟩ := hq.shape
  replace hs := bStep hs hb
  replace Blg := Blg.mono hb
  replace Blr := Blr.mono hb
  clear hb
  go_upto_region 2 with fail
  have ngx0 : w.heap.size + 1 < w2.heap.size := Blr.lt
  refine Code.abs ?_
  intro w3 hW
  have hsz := hs.size
  have lg := Blg.lt
  have lr := Blr.lt
  have hbw : Below w.heap.size w2 w3 := by rw [hW]; exact (Below.alloc (Below.refl w.heap.size w2) (by first | exact hs.size | (have := hs.size; simp; done) | (have := hs.size; simp; omega)) _)
  have hs1 : Below w.heap.size w w3 := hs.trans hbw
  have hk : KeepD w2 w3 := by rw [hW]; exact ((KeepD.refl _).alloc _)
  have Bl1g : Bx w3 (w.heap.size) 47 #[.int .i64 f, .int .i64 t, .float .f32 lv] := by rw [hW]; exact (Blg.alloc _)
  have Bl1r : Bx w3 (w.heap.size + 1) 47 #[.int .i64 0, .int .i64 0, .float .f32 0] := by rw [hW]; exact (Blr.alloc _)
  have Bl1x : Bx w3 (w2.heap.size) 32 #[.bool shq, .slice ahq nhq chq, .slice Ahq Nhq Chq] := by rw [hW]; exact (Bx.new' _ _ _ _ (by first | rfl | (simp; done)))
  replace hs := hs1
  clear hs1
  replace Blg := Bl1g
  clear Bl1g
  replace Blr := Bl1r
  clear Bl1r
  have Blx := Bl1x
  clear Bl1x
  replace hq := hq.keep hk
  clear hW hk hsz hbw lg lr
  have hz_w3 : w2.heap.size < w3.heap.size := Blx.lt
  have ngx : w.heap.size + 1 < w3.heap.size := Blr.lt
  go_wp2_with fail
  refine Calls.abs ?_
  intro w4 hW
  have hsz := hs.size
  have lg := Blg.lt
  have lr := Blr.lt
  have lx := Blx.lt
  have hbw : Below w.heap.size w3 w4 := by rw [hW]; exact (Below.alloc (Below.refl w.heap.size w3) (by first | exact hs.size | (have := hs.size; simp; done) | (have := hs.size; simp; omega)) _)
  have hs1 : Below w.heap.size w w4 := hs.trans hbw
  have hk : KeepD w3 w4 := by rw [hW]; exact ((KeepD.refl _).alloc _)
  have Bl1g : Bx w4 (w.heap.size) 47 #[.int .i64 f, .int .i64 t, .float .f32 lv] := by rw [hW]; exact (Blg.alloc _)
  have Bl1r : Bx w4 (w.heap.size + 1) 47 #[.int .i64 0, .int .i64 0, .float .f32 0] := by rw [hW]; exact (Blr.alloc _)
  have Bl1x : Bx w4 (w2.heap.size) 32 #[.bool shq, .slice ahq nhq chq, .slice Ahq Nhq Chq] := by rw [hW]; exact (Blx.alloc _)
  have Bl1h : Bx w4 (w3.heap.size) 47 #[.int .i64 (n + a), .int .i64 (n + b), .float .f32 lw] := by rw [hW]; exact (Bx.new' _ _ _ _ (by first | rfl | (simp; done)))
  replace hs := hs1
  clear hs1
  replace Blg := Bl1g
  clear Bl1g
  replace Blr := Bl1r
  clear Bl1r
  replace Blx := Bl1x
  clear Bl1x
  have Blh := Bl1h
  clear Bl1h
  replace hq := hq.keep hk
  clear hW hk hsz hbw lg lr lx
  have hz_w4 : w3.heap.size < w4.heap.size := Blh.lt
  refine (HC.out _).mono ?_
  rintro e w5 ⟨rfl, hb⟩
  replace hs := bStep hs hb
  replace Blg := Blg.mono hb
  replace Blr := Blr.mono hb
  replace Blx := Blx.mono hb
  replace Blh := Blh.mono hb
  replace hq := hq.mono hb
  clear hb
  have cr_0 : w5.cell? ⟨w.heap.size + 1, 0, none⟩ = some (.int .i64 0) := Blr.at 0 rfl
  have cr_1 : w5.cell? ⟨w.heap.size + 1, 1, none⟩ = some (.int .i64 0) := Blr.at 1 rfl
  have cr_2 : w5.cell? ⟨w.heap.size + 1, 2, none⟩ = some (.float .f32 0) := Blr.at 2 rfl
  have fr := Blr.free
  have Lr : w.heap.size + 1 < w5.heap.size := Blr.lt
  go_wp2
  refine bodyPost.abs ?_
  intro w6 hW
  have hsz := hs.size
  have lg := Blg.lt
  have lr := Blr.lt
  have lx := Blx.lt
  have lh := Blh.lt
  have hbw : Below w.heap.size w5 w6 := by rw [hW]; exact (Below.setCell (Below.setCell (Below.setCell (Below.refl w.heap.size w5) (by first | exact Nat.le_refl _ | omega | (have := hs.size; simp; done) | (have := hs.size; simp; omega)) _) (by first | exact Nat.le_refl _ | omega | (have := hs.size; simp; done) | (have := hs.size; simp; omega)) _) (by first | exact Nat.le_refl _ | omega | (have := hs.size; simp; done) | (have := hs.size; simp; omega)) _)
  have hs1 : Below w.heap.size w w6 := hs.trans hbw
  have hk : KeepD w5 w6 := by rw [hW]; exact (KeepD.set (KeepD.set (KeepD.set (KeepD.refl _) Blr.ty (by decide) _ _) (TyB.store Blr.ty _ _) (by decide) _ _) (TyB.store (TyB.store Blr.ty _ _) _ _) (by decide) _ _)
  have Bl1g : Bx w6 (w.heap.size) 47 #[.int .i64 f, .int .i64 t, .float .f32 lv] := by rw [hW]; exact (Bx.far (Bx.far (Bx.far Blg (by first | omega | (simp; done) | (simp; omega)) _) (by first | omega | (simp; done) | (simp; omega)) _) (by first | omega | (simp; done) | (simp; omega)) _)
  have Bl1r : Bx w6 (w.heap.size + 1) 47 #[.int .i64 0, .int .i64 0, .float .f32 0] := by rw [hW]; exact (Bx.set (Bx.set (Bx.set Blr 0 _ rfl) 1 _ rfl) 2 _ rfl)
  have Bl1x : Bx w6 (w2.heap.size) 32 #[.bool shq, .slice ahq nhq chq, .slice Ahq Nhq Chq] := by rw [hW]; exact (Bx.far (Bx.far (Bx.far Blx (by first | omega | (simp; done) | (simp; omega)) _) (by first | omega | (simp; done) | (simp; omega)) _) (by first | omega | (simp; done) | (simp; omega)) _)
  have Bl1h : Bx w6 (w3.heap.size) 47 #[.int .i64 (n + a), .int .i64 (n + b), .float .f32 lw] := by rw [hW]; exact (Bx.far (Bx.far (Bx.far Blh (by first | omega | (simp; done) | (simp; omega)) _) (by first | omega | (simp; done) | (simp; omega)) _) (by first | omega | (simp; done) | (simp; omega)) _)
  replace hs := hs1
  clear hs1
  replace Blg := Bl1g
  clear Bl1g
  replace Blr := Bl1r
  clear Bl1r
  replace Blx := Bl1x
  clear Bl1x
  replace Blh := Bl1h
  clear Bl1h
  clear hW hk hsz hbw lg lr lx lh
  have cr_0 : w6.cell? ⟨w.heap.size + 1, 0, none⟩ = some (.int .i64 0) := Blr.at 0 rfl
  have cr_1 : w6.cell? ⟨w.heap.size + 1, 1, none⟩ = some (.int .i64 0) := Blr.at 1 rfl
  have cr_2 : w6.cell? ⟨w.heap.size + 1, 2, none⟩ = some (.float .f32 0) := Blr.at 2 rfl
  exact bodyPost_ret (v := .tuple #[.agg #[.int .i64 0, .int .i64 0, .float .f32 0], .int .i64 1]) (by simp [results, Tryz.results19, go_sem, cr_0, cr_1, cr_2]) rfl ⟨_, _, rfl, rfl, rfl, hs⟩
set_option maxRecDepth 100000 in
set_option maxHeartbeats 4000000 in
theorem sc_Follow_ok (ao : Option Addr) (N cap : Nat) (f t a b : Int) (lv lw : Nat) (n pe : Int) (q : Rat) (w : World) (hN : N ≤ 256) (hn0 : 0 ≤ n) (hn1 : n < N) (hpe : pe = 0) (h1 : ¬ a < -n) (h2 : ¬ N - n < b) (h3 : ¬ b ≤ a) (hg : gateE (n + a) (n + b) N lw = 0)
    (hp : ∀ w' : World, Below w.heap.size w w' → Calls Tryz.prog 14 #[.slice ao N cap, .agg #[.int .i64 f, .int .i64 t, .float .f32 lv]] w' (Ret3 (fun _ v => v = .int .i64 n) (fun w v => PV w v q) (fun _ v => v = .int .i64 pe) w')) :
    Calls Tryz.prog 19 #[.slice ao N cap, .agg #[.int .i64 f, .int .i64 t, .float .f32 lv], .int .i64 a, .int .i64 b, .float .f32 lw] w (Ret2 (fun _ v => v = .agg #[.int .i64 (n + a), .int .i64 (n + b), .float .f32 lw]) (fun _ v => v = .int .i64 0) w) := by
  have hs := Below.refl w.heap.size w
  have HP := Lib.hid hp
  subst hpe
  have d1 : (a < -n) = False := eq_false (by omega)
  have d2 : ((N : Int) - n < b) = False := eq_false (by omega)
  have d3 : (b ≤ a) = False := eq_false (by omega)
  have wa : IntKind.i64.wrap (n + a) = n + a := IntWalk.i64_in _ (by omega)
  have wb : IntKind.i64.wrap (n + b) = n + b := IntWalk.i64_in _ (by omega)
  have HC := Lib.hid (fun w => hg ▸ sc_check (n + a) (n + b) (N : Int) lw w)
  clear hg
  clear hp
  go_enter Tryz.func19, Tryz.ntmps19
  go_wp2_with fail
  refine Calls.abs ?_
  intro w1 hW
  have hsz := hs.size
  have hbw : Below w.heap.size w w1 := by rw [hW]; exact (Below.alloc (Below.alloc (Below.refl w.heap.size w) (by first | exact hs.size | (have := hs.size; simp; done) | (have := hs.size; simp; omega)) _) (by first | exact hs.size | (have := hs.size; simp; done) | (have := hs.size; simp; omega)) _)
  have hs1 : Below w.heap.size w w1 := hs.trans hbw
  have hk : KeepD w w1 := by rw [hW]; exact (((KeepD.refl _).alloc _).alloc _)
  have Bl1g : Bx w1 (w.heap.size) 47 #[.int .i64 f, .int .i64 t, .float .f32 lv] := by rw [hW]; exact ((Bx.new' _ _ _ _ (by first | rfl | (simp; done))).alloc _)
  have Bl1r : Bx w1 (w.heap.size + 1) 47 #[.int .i64 0, .int .i64 0, .float .f32 0] := by rw [hW]; exact (Bx.new' _ _ _ _ (by first | rfl | (simp; done)))
  replace hs := hs1
  clear hs1
  have Blg := Bl1g
  clear Bl1g
  have Blr := Bl1r
  clear Bl1r
  clear hW hk hsz hbw
  have hz_w1 : w.heap.size + 1 < w1.heap.size := Blr.lt
  refine (HP.out _ hs).mono ?_
  rintro e w2 ⟨_, _, _, rfl, rfl, hq, rfl, hb⟩
  obtain ⟨shq, ahq, nhq, chq, Ahq, Nhq, Chq, rfl⟩ := hq.shape
  replace hs := bStep hs hb
  replace Blg := Blg.mono hb
  replace Blr := Blr.mono hb
  clear hb
  go_upto_region 2 with fail
  have ngx0 : w.heap.size + 1 < w2.heap.size := Blr.lt
  refine Code.abs ?_
  intro w3 hW
  have hsz := hs.size
  have lg := Blg.lt
  have lr := Blr.lt
  have hbw : Below w.heap.size w2 w3 := by rw [hW]; exact (Below.alloc (Below.refl w.heap.size w2) (by first | exact hs.size | (have := hs.size; simp; done) | (have := hs.size; simp; omega)) _)
  have hs1 : Below w.heap.size w w3 := hs.trans hbw
  have hk : KeepD w2 w3 := by rw [hW]; exact ((KeepD.refl _).alloc _)
  have Bl1g : Bx w3 (w.heap.size) 47 #[.int .i64 f, .int .i64 t, .float .f32 lv] := by rw [hW]; exact (Blg.alloc _)
  have Bl1r : Bx w3 (w.heap.size + 1) 47 #[.int .i64 0, .int .i64 0, .float .f32 0] := by rw [hW]; exact (Blr.alloc _)
  have Bl1x : Bx w3 (w2.heap.size) 32 #[.bool shq, .slice ahq nhq chq, .slice Ahq Nhq Chq] := by rw [hW]; exact (Bx.new' _ _ _ _ (by first | rfl | (simp; done)))
  replace hs := hs1
  clear hs1
  replace Blg := Bl1g
  clear Bl1g
  replace Blr := Bl1r
  clear Bl1r
  have Blx := Bl1x
  clear Bl1x
  replace hq := hq.keep hk
  clear hW hk hsz hbw lg lr
  have hz_w3 : w2.heap.size < w3.heap.size := Blx.lt
  have ngx : w.heap.size + 1 < w3.heap.size := Blr.lt
  go_wp2_with fail
  refine Calls.abs ?_
  intro w4 hW
  have hsz := hs.size
  have lg := Blg.lt
  have lr := Blr.lt
  have lx := Blx.lt
  have hbw : Below w.heap.size w3 w4 := by rw [hW]; exact (Below.alloc (Below.refl w.heap.size w3) (by first | exact hs.size | (have := hs.size; simp; done) | (have := hs.size; simp; omega)) _)
  have hs1 : Below w.heap.size w w4 := hs.trans hbw
  have hk : KeepD w3 w4 := by rw [hW]; exact ((KeepD.refl _).alloc _)
  have Bl1g : Bx w4 (w.heap.size) 47 #[.int .i64 f, .int .i64 t, .float .f32 lv] := by rw [hW]; exact (Blg.alloc _)
  have Bl1r : Bx w4 (w.heap.size + 1) 47 #[.int .i64 0, .int .i64 0, .float .f32 0] := by rw [hW]; exact (Blr.alloc _)
  have Bl1x : Bx w4 (w2.heap.size) 32 #[.bool shq, .slice ahq nhq chq, .slice Ahq Nhq Chq] := by rw [hW]; exact (Blx.alloc _)
  have Bl1h : Bx w4 (w3.heap.size) 47 #[.int .i64 (n + a), .int .i64 (n + b), .float .f32 lw] := by rw [hW]; exact (Bx.new' _ _ _ _ (by first | rfl | (simp; done)))
  replace hs := hs1
  clear hs1
  replace Blg := Bl1g
  clear Bl1g
  replace Blr := Bl1r
  clear Bl1r
  replace Blx := Bl1x
  clear Bl1x
  have Blh := Bl1h
  clear Bl1h
  replace hq := hq.keep hk
  clear hW hk hsz hbw lg lr lx
  have hz_w4 : w3.heap.size < w4.heap.size := Blh.lt
  refine (HC.out _).mono ?_
  rintro e w5 ⟨rfl, hb⟩
  replace hs := bStep hs hb
  replace Blg := Blg.mono hb
  replace Blr := Blr.mono hb
  replace Blx := Blx.mono hb
  replace Blh := Blh.mono hb
  replace hq := hq.mono hb
  clear hb
  have ch_0 : w5.cell? ⟨w3.heap.size, 0, none⟩ = some (.int .i64 (n + a)) := Blh.at 0 rfl
  have ch_1 : w5.cell? ⟨w3.heap.size, 1, none⟩ = some (.int .i64 (n + b)) := Blh.at 1 rfl
  have ch_2 : w5.cell? ⟨w3.heap.size, 2, none⟩ = some (.float .f32 lw) := Blh.at 2 rfl
  have cr_0 : w5.cell? ⟨w.heap.size + 1, 0, none⟩ = some (.int .i64 0) := Blr.at 0 rfl
  have cr_1 : w5.cell? ⟨w.heap.size + 1, 1, none⟩ = some (.int .i64 0) := Blr.at 1 rfl
  have cr_2 : w5.cell? ⟨w.heap.size + 1, 2, none⟩ = some (.float .f32 0) := Blr.at 2 rfl
  have fr := Blr.free
  have Lr : w.heap.size + 1 < w5.heap.size := Blr.lt
  go_wp2
  refine bodyPost.abs ?_
  intro w6 hW
  have hsz := hs.size
  have lg := Blg.lt
  have lr := Blr.lt
  have lx := Blx.lt
  have lh := Blh.lt
  have hbw : Below w.heap.size w5 w6 := by rw [hW]; exact (Below.setCell (Below.setCell (Below.setCell (Below.refl w.heap.size w5) (by first | exact Nat.le_refl _ | omega | (have := hs.size; simp; done) | (have := hs.size; simp; omega)) _) (by first | exact Nat.le_refl _ | omega | (have := hs.size; simp; done) | (have := hs.size; simp; omega)) _) (by first | exact Nat.le_refl _ | omega | (have := hs.size; simp; done) | (have := hs.size; simp; omega)) _)
  have hs1 : Below w.heap.size w w6 := hs.trans hbw
  have hk : KeepD w5 w6 := by rw [hW]; exact (KeepD.set (KeepD.set (KeepD.set (KeepD.refl _) Blr.ty (by decide) _ _) (TyB.store Blr.ty _ _) (by decide) _ _) (TyB.store (TyB.store Blr.ty _ _) _ _) (by decide) _ _)
  have Bl1g : Bx w6 (w.heap.size) 47 #[.int .i64 f, .int .i64 t, .float .f32 lv] := by rw [hW]; exact (Bx.far (Bx.far (Bx.far Blg (by first | omega | (simp; done) | (simp; omega)) _) (by first | omega | (simp; done) | (simp; omega)) _) (by first | omega | (simp; done) | (simp; omega)) _)
  have Bl1r : Bx w6 (w.heap.size + 1) 47 #[.int .i64 (n + a), .int .i64 (n + b), .float .f32 lw] := by rw [hW]; exact (Bx.set (Bx.set (Bx.set Blr 0 _ rfl) 1 _ rfl) 2 _ rfl)
  have Bl1x : Bx w6 (w2.heap.size) 32 #[.bool shq, .slice ahq nhq chq, .slice Ahq Nhq Chq] := by rw [hW]; exact (Bx.far (Bx.far (Bx.far Blx (by first | omega | (simp; done) | (simp; omega)) _) (by first | omega | (simp; done) | (simp; omega)) _) (by first | omega | (simp; done) | (simp; omega)) _)
  have Bl1h : Bx w6 (w3.heap.size) 47 #[.int .i64 (n + a), .int .i64 (n + b), .float .f32 lw] := by rw [hW]; exact (Bx.far (Bx.far (Bx.far Blh (by first | omega | (simp; done) | (simp; omega)) _) (by first | omega | (simp; done) | (simp; omega)) _) (by first | omega | (simp; done) | (simp; omega)) _)
  replace hs := hs1
  clear hs1
  replace Blg := Bl1g
  clear Bl1g
  replace Blr := Bl1r
  clear Bl1r
  replace Blx := Bl1x
  clear Bl1x
  replace Blh := Bl1h
  clear Bl1h
  clear hW hk hsz hbw lg lr lx lh
  have cr_0 : w6.cell? ⟨w.heap.size + 1, 0, none⟩ = some (.int .i64 (n + a)) := Blr.at 0 rfl
  have cr_1 : w6.cell? ⟨w.heap.size + 1, 1, none⟩ = some (.int .i64 (n + b)) := Blr.at 1 rfl
  have cr_2 : w6.cell? ⟨w.heap.size + 1, 2, none⟩ = some (.float .f32 lw) := Blr.at 2 rfl
  exact bodyPost_ret (v := .tuple #[.agg #[.int .i64 (n + a), .int .i64 (n + b), .float .f32 lw], .int .i64 0]) (by simp [results, Tryz.results19, go_sem, cr_0, cr_1, cr_2]) rfl ⟨_, _, rfl, rfl, rfl, hs⟩
/-- What Follow hands back, at any trace and gate. -/
def followE (ys : List Nat) (f t a b : Int) (lv lw : Nat) : Int := if peakE ys f t lv ≠ 0 then peakE ys f t lv else if a < -peakN ys f t lv then 1 else if (ys.length : Int) - peakN ys f t lv < b then 1 else if b ≤ a then 1 else gateE (peakN ys f t lv + a) (peakN ys f t lv + b) ys.length lw
def followG (ys : List Nat) (f t a b : Int) (lv lw : Nat) : Int × Int × Nat := if followE ys f t a b lv lw ≠ 0 then (0, 0, 0) else (peakN ys f t lv + a, peakN ys f t lv + b, lw)
theorem peak_zero {ys : List Nat} {f t : Int} {lv : Nat} (h : peakE ys f t lv = 0) : traceE ys = 0 ∧ gateE f t ys.length lv = 0 ∧ peakE0 ys f t lv = 0 := by
  have h0 : peakE0 ys f t lv = 0 := by
    unfold peakE at h
    split at h
    · exact h
    · rename_i hn; exact Decidable.not_not.1 hn
  have h1 : traceE ys = 0 := by
    unfold peakE0 at h0
    split at h0
    · exact h0
    · rename_i hn; exact Decidable.not_not.1 hn
  refine ⟨h1, ?_, h0⟩
  unfold peakE0 at h0
  rw [if_neg (by rw [h1]; decide)] at h0
  exact h0
theorem trace_zero {ys : List Nat} (h : traceE ys = 0) : ys.length ≤ 256 ∧ ∀ y ∈ ys, f32E y ≠ 255 := by
  unfold traceE at h
  split at h
  · cases h
  · split at h
    · cases h
    · rename_i h1 h2
      exact ⟨by omega, fun y hy hE => h2 (List.any_eq_true.2 ⟨y, hy, decide_eq_true hE⟩)⟩
theorem peakN_bd {ys : List Nat} {f t : Int} {lv : Nat} (h : peakE ys f t lv = 0) : 0 ≤ peakN ys f t lv ∧ peakN ys f t lv < ys.length := by
  obtain ⟨_, hg, h0⟩ := peak_zero h
  obtain ⟨g1, g2, g3, _⟩ := gateE_zero hg
  unfold peakE at h
  unfold peakN
  rw [if_neg (by rw [h0]; decide)] at h ⊢
  unfold pkE at h
  unfold pkN
  split at h
  · cases h
  · rename_i hl
    rw [if_neg hl]
    have := pkA_le (yQ ys) f.toNat (t.toNat - f.toNat)
    omega
theorem sc_Follow_calls (v : Value) (ys : List Nat) (f t a b : Int) (lv lw : Nat) (w : World) (hl : RowsI 1 F32 w v (ys.map fun x => (x, flQ (cvF x)))) :
    Calls Tryz.prog 19 #[v, .agg #[.int .i64 f, .int .i64 t, .float .f32 lv], .int .i64 a, .int .i64 b, .float .f32 lw] w (Ret2 (fun _ v => v = .agg #[.int .i64 (followG ys f t a b lv lw).1, .int .i64 (followG ys f t a b lv lw).2.1, .float .f32 (followG ys f t a b lv lw).2.2]) (fun _ v => v = .int .i64 (followE ys f t a b lv lw)) w) := by
  have hp := fun (w' : World) (hb : Below w.heap.size w w') => sc_Peak_calls v ys f t lv w' (hl.mono F32.kept hb)
  obtain ⟨ao, cap, rfl, hc1, hc2, hc3⟩ := hl.slice
  rw [List.length_map] at hp ⊢
  by_cases he : peakE ys f t lv = 0
  · obtain ⟨ht, -, -⟩ := peak_zero he
    obtain ⟨hN, -⟩ := trace_zero ht
    obtain ⟨n0, n1⟩ := peakN_bd he
    by_cases h1 : a < -peakN ys f t lv
    · have eE : followE ys f t a b lv lw = 1 := by unfold followE; rw [if_neg (by rw [he]; decide), if_pos h1]
      unfold followG
      rw [eE]
      exact sc_Follow_e2 ao ys.length cap f t a b lv lw _ _ _ w hN n0 n1 he h1 hp
    · by_cases h2 : (ys.length : Int) - peakN ys f t lv < b
      · have eE : followE ys f t a b lv lw = 1 := by unfold followE; rw [if_neg (by rw [he]; decide), if_neg h1, if_pos h2]
        unfold followG
        rw [eE]
        exact sc_Follow_e3 ao ys.length cap f t a b lv lw _ _ _ w hN n0 n1 he h1 h2 hp
      · by_cases h3 : b ≤ a
        · have eE : followE ys f t a b lv lw = 1 := by unfold followE; rw [if_neg (by rw [he]; decide), if_neg h1, if_neg h2, if_pos h3]
          unfold followG
          rw [eE]
          exact sc_Follow_e4 ao ys.length cap f t a b lv lw _ _ _ w hN n0 n1 he h1 h2 h3 hp
        · have eE : followE ys f t a b lv lw = gateE (peakN ys f t lv + a) (peakN ys f t lv + b) ys.length lw := by unfold followE; rw [if_neg (by rw [he]; decide), if_neg h1, if_neg h2, if_neg h3]
          unfold followG
          rw [eE]
          rcases gateE_or (peakN ys f t lv + a) (peakN ys f t lv + b) ys.length lw with hg | hg
          · rw [hg]
            exact sc_Follow_ok ao ys.length cap f t a b lv lw _ _ _ w hN n0 n1 he h1 h2 h3 hg hp
          · rw [hg]
            exact sc_Follow_e5 ao ys.length cap f t a b lv lw _ _ _ w hN n0 n1 he h1 h2 h3 hg hp
  · have eE : followE ys f t a b lv lw = peakE ys f t lv := by unfold followE; rw [if_pos he]
    unfold followG
    rw [eE, if_pos he]
    exact sc_Follow_e1 ao ys.length cap f t a b lv lw _ _ _ w he hp
end Go.Proofs.YtkfekkhhfpkfaaaGreat
