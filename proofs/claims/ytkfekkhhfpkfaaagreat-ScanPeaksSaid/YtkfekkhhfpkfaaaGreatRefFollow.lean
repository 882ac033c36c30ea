/-
  Reference 07: Peak and Follow at any trace and gate.
-/
import Derived.Test.YtkfekkhhfpkfaaaGreatRefPeak
set_option linter.unusedSimpArgs false
set_option linter.unusedVariables false
namespace Go.Proofs.YtkfekkhhfpkfaaaGreat
open Go.RowKit Dg
attribute [local go_sem ↓] Go.wp_at_zero Go.wp_at_succ

attribute [local go_sem] run_store_float
theorem r7_Peak_calls (v : Value) (ys : List Nat) (f t : Int) (lv : Nat) (w : World) (hl : RowsI 1 F32 w v (ys.map fun x => (x, flQ (cvF x)))) :
    Calls Tryz.prog 15 #[v, .agg #[.int .i64 f, .int .i64 t, .float .f32 lv]] w (Ret3 (fun _ v => v = .int .i64 (peakN ys f t lv)) (fun w v => RV w v (peakV ys f t lv)) (fun _ v => v = .int .i64 (peakE ys f t lv)) w) := by
  have hT := fun (w' : World) (hb : Below w.heap.size w w') => r7_Trace_calls v ys w' (hl.mono F32.kept hb)
  have hl0 := hl
  obtain ⟨ao, cap, rfl, hc1, hc2, hc3⟩ := hl.slice
  rw [List.length_map] at hT hl0 ⊢
  by_cases e : traceE ys = 0
  · obtain ⟨hN, hno⟩ := trace_zero e
    rw [e] at hT
    have e0 : peakE0 ys f t lv = gateE f t ys.length lv := by unfold peakE0; rw [e]; rfl
    unfold peakE peakN peakV
    rw [e0]
    have hG := fun w => r7_gate f t ys.length lv w
    rcases gateE_or f t ys.length lv with hg | hg
    · obtain ⟨g1, g2, g3, g4, g5⟩ := gateE_zero hg
      rw [hg] at hG ⊢
      obtain ⟨f, rfl⟩ := Int.eq_ofNat_of_zero_le g1
      obtain ⟨t, rfl⟩ := Int.eq_ofNat_of_zero_le (show 0 ≤ t by omega)
      have h0 : 0 < ys.length := by omega
      have hx : (ys.map fun x => (x, flQ (cvF x)))[0]? = some (nthN ys 0, flQ (cvF (nthN ys 0))) := by rw [List.getElem?_map, nthN_some h0]; rfl
      obtain ⟨b', o', c', cs, hv, -, -, -⟩ := hl0.get hx
      obtain ⟨rfl, rfl⟩ := sliceE hv
      exact r7_Peak_ok b' o' cap ys f t lv w hl0 hT hG hN (by omega) (by omega) (fun i hi => hno _ (List.mem_of_getElem? (nthN_some hi))) g4
    · rw [hg] at hG ⊢
      exact r7_Peak_err2 ao cap ys f t lv w hT hG
  · have e0 : peakE0 ys f t lv = traceE ys := by unfold peakE0; rw [if_pos e]
    unfold peakE peakN peakV
    rw [e0, if_pos e, if_pos e, if_pos e]
    exact r7_Peak_err1 ao cap ys f t lv _ e w hT
set_option maxRecDepth 100000 in
set_option maxHeartbeats 4000000 in
theorem r7_Follow_e1 (ao : Option Addr) (N cap : Nat) (f t a b : Int) (lv lw : Nat) (n pe : Int) (q : Rat) (w : World) (hpe : pe ≠ 0)
    (hp : ∀ w' : World, Below w.heap.size w w' → Calls Tryz.prog 15 #[.slice ao N cap, .agg #[.int .i64 f, .int .i64 t, .float .f32 lv]] w' (Ret3 (fun _ v => v = .int .i64 n) (fun w v => RV w v q) (fun _ v => v = .int .i64 pe) w')) :
    Calls Tryz.prog 20 #[.slice ao N cap, .agg #[.int .i64 f, .int .i64 t, .float .f32 lv], .int .i64 a, .int .i64 b, .float .f32 lw] w (Ret2 (fun _ v => v = .agg #[.int .i64 0, .int .i64 0, .float .f32 0]) (fun _ v => v = .int .i64 pe) w) := by
  have hs := Below.refl w.heap.size w
  have HP := Lib.hid hp
  have d1 : (pe == 0) = false := by simpa using hpe
  have d2 : (pe != 0) = true := by simpa using hpe
  clear hpe
  clear hp
  go_enter Tryz.func20, Tryz.ntmps20
  go_wp2_with fail
  refine Calls.abs ?_
  intro w1 hW
  have hsz := hs.size
  have hbw : Below w.heap.size w w1 := by rw [hW]; exact (Below.alloc (Below.alloc (Below.refl w.heap.size w) (by first | exact hs.size | (have := hs.size; simp; done) | (have := hs.size; simp; omega)) _) (by first | exact hs.size | (have := hs.size; simp; done) | (have := hs.size; simp; omega)) _)
  have hs1 : Below w.heap.size w w1 := hs.trans hbw
  have hk : KeepD w w1 := by rw [hW]; exact (((KeepD.refl _).alloc _).alloc _)
  have Bl1g : Bx w1 (w.heap.size) 52 #[.int .i64 f, .int .i64 t, .float .f32 lv] := by rw [hW]; exact ((Bx.new' _ _ _ _ (by first | rfl | (simp; done))).alloc _)
  have Bl1r : Bx w1 (w.heap.size + 1) 52 #[.int .i64 0, .int .i64 0, .float .f32 0] := by rw [hW]; exact (Bx.new' _ _ _ _ (by first | rfl | (simp; done)))
  replace hs := hs1
  clear hs1
  have Blg := Bl1g
  clear Bl1g
  have Blr := Bl1r
  clear Bl1r
  clear hW hk hsz hbw
  have hz_w1 : w.heap.size + 1 < w1.heap.size := Blr.lt
  refine (HP.out _ hs).mono ?_
  rintro e w2 ⟨_, _, _, rfl, rfl, hq, rfl, hb⟩
  obtain ⟨shq, ahq, nhq, chq, Ahq, Nhq, Chq, rfl⟩ := hq.shape
  replace hs := bStep hs hb
  replace Blg := Blg.mono hb
  replace Blr := Blr.mono hb
  clear hb
  go_upto_region 2 with fail
  have ngx0 : w.heap.size + 1 < w2.heap.size := Blr.lt
  refine Code.abs ?_
  intro w3 hW
  have hsz := hs.size
  have lg := Blg.lt
  have lr := Blr.lt
  have hbw : Below w.heap.size w2 w3 := by rw [hW]; exact (Below.alloc (Below.refl w.heap.size w2) (by first | exact hs.size | (have := hs.size; simp; done) | (have := hs.size; simp; omega)) _)
  have hs1 : Below w.heap.size w w3 := hs.trans hbw
  have hk : KeepD w2 w3 := by rw [hW]; exact ((KeepD.refl _).alloc _)
  have Bl1g : Bx w3 (w.heap.size) 52 #[.int .i64 f, .int .i64 t, .float .f32 lv] := by rw [hW]; exact (Blg.alloc _)
  have Bl1r : Bx w3 (w.heap.size + 1) 52 #[.int .i64 0, .int .i64 0, .float .f32 0] := by rw [hW]; exact (Blr.alloc _)
  have Bl1x : Bx w3 (w2.heap.size) 38 #[.bool shq, .slice ahq nhq chq, .slice Ahq Nhq Chq] := by rw [hW]; exact (Bx.new' _ _ _ _ (by first | rfl | (simp; done)))
  replace hs := hs1
  clear hs1
  replace Blg := Bl1g
  clear Bl1g
  replace Blr := Bl1r
  clear Bl1r
  have Blx := Bl1x
  clear Bl1x
  replace hq := hq.keep hk
  clear hW hk hsz hbw lg lr
  have hz_w3 : w2.heap.size < w3.heap.size := Blx.lt
  have cr_0 : w3.cell? ⟨w.heap.size + 1, 0, none⟩ = some (.int .i64 0) := Blr.at 0 rfl
  have cr_1 : w3.cell? ⟨w.heap.size + 1, 1, none⟩ = some (.int .i64 0) := Blr.at 1 rfl
  have cr_2 : w3.cell? ⟨w.heap.size + 1, 2, none⟩ = some (.float .f32 0) := Blr.at 2 rfl
  have fr := Blr.free
  have Lr : w.heap.size + 1 < w3.heap.size := Blr.lt
  go_wp2
  refine bodyPost.abs ?_
  intro w4 hW
  have hsz := hs.size
  have lg := Blg.lt
  have lr := Blr.lt
  have lx := Blx.lt
  have hbw : Below w.heap.size w3 w4 := by rw [hW]; exact (Below.setCell (Below.setCell (Below.setCell (Below.refl w.heap.size w3) (by first | exact Nat.le_refl _ | omega | (have := hs.size; simp; done) | (have := hs.size; simp; omega)) _) (by first | exact Nat.le_refl _ | omega | (have := hs.size; simp; done) | (have := hs.size; simp; omega)) _) (by first | exact Nat.le_refl _ | omega | (have := hs.size; simp; done) | (have := hs.size; simp; omega)) _)
  have hs1 : Below w.heap.size w w4 := hs.trans hbw
  have hk : KeepD w3 w4 := by rw [hW]; exact (KeepD.set (KeepD.set (KeepD.set (KeepD.refl _) Blr.ty (by decide) _ _) (TyB.store Blr.ty _ _) (by decide) _ _) (TyB.store (TyB.store Blr.ty _ _) _ _) (by decide) _ _)
  have Bl1g : Bx w4 (w.heap.size) 52 #[.int .i64 f, .int .i64 t, .float .f32 lv] := by rw [hW]; exact (Bx.far (Bx.far (Bx.far Blg (by first | omega | (simp; done) | (simp; omega)) _) (by first | omega | (simp; done) | (simp; omega)) _) (by first | omega | (simp; done) | (simp; omega)) _)
  have Bl1r : Bx w4 (w.heap.size + 1) 52 #[.int .i64 0, .int .i64 0, .float .f32 0] := by rw [hW]; exact (Bx.set (Bx.set (Bx.set Blr 0 _ rfl) 1 _ rfl) 2 _ rfl)
  have Bl1x : Bx w4 (w2.heap.size) 38 #[.bool shq, .slice ahq nhq chq, .slice Ahq Nhq Chq] := by rw [hW]; exact (Bx.far (Bx.far (Bx.far Blx (by first | omega | (simp; done) | (simp; omega)) _) (by first | omega | (simp; done) | (simp; omega)) _) (by first | omega | (simp; done) | (simp; omega)) _)
  replace hs := hs1
  clear hs1
  replace Blg := Bl1g
  clear Bl1g
  replace Blr := Bl1r
  clear Bl1r
  replace Blx := Bl1x
  clear Bl1x
  clear hW hk hsz hbw lg lr lx
  have cr_0 : w4.cell? ⟨w.heap.size + 1, 0, none⟩ = some (.int .i64 0) := Blr.at 0 rfl
  have cr_1 : w4.cell? ⟨w.heap.size + 1, 1, none⟩ = some (.int .i64 0) := Blr.at 1 rfl
  have cr_2 : w4.cell? ⟨w.heap.size + 1, 2, none⟩ = some (.float .f32 0) := Blr.at 2 rfl
  exact bodyPost_ret (v := .tuple #[.agg #[.int .i64 0, .int .i64 0, .float .f32 0], .int .i64 pe]) (by simp [results, Tryz.results20, go_sem, cr_0, cr_1, cr_2]) rfl ⟨_, _, rfl, rfl, rfl, hs⟩
set_option maxRecDepth 100000 in
set_option maxHeartbeats 4000000 in
theorem r7_Follow_f0 (ao : Option Addr) (N cap : Nat) (f t a b : Int) (lv lw : Nat) (n pe : Int) (q : Rat) (w : World) (hN : N ≤ 256) (hn0 : 0 ≤ n) (hn1 : n < N) (hpe : pe = 0) (h0 : a < -256)
    (hp : ∀ w' : World, Below w.heap.size w w' → Calls Tryz.prog 15 #[.slice ao N cap, .agg #[.int .i64 f, .int .i64 t, .float .f32 lv]] w' (Ret3 (fun _ v => v = .int .i64 n) (fun w v => RV w v q) (fun _ v => v = .int .i64 pe) w')) :
    Calls Tryz.prog 20 #[.slice ao N cap, .agg #[.int .i64 f, .int .i64 t, .float .f32 lv], .int .i64 a, .int .i64 b, .float .f32 lw] w (Ret2 (fun _ v => v = .agg #[.int .i64 0, .int .i64 0, .float .f32 0]) (fun _ v => v = .int .i64 1) w) := by
  have hs := Below.refl w.heap.size w
  have HP := Lib.hid hp
  subst hpe
  have d0 : (a < -256) = True := eq_true (by omega)
  clear hp
  go_enter Tryz.func20, Tryz.ntmps20
  go_wp2_with fail
  refine Calls.abs ?_
  intro w1 hW
  have hsz := hs.size
  have hbw : Below w.heap.size w w1 := by rw [hW]; exact (Below.alloc (Below.alloc (Below.refl w.heap.size w) (by first | exact hs.size | (have := hs.size; simp; done) | (have := hs.size; simp; omega)) _) (by first | exact hs.size | (have := hs.size; simp; done) | (have := hs.size; simp; omega)) _)
  have hs1 : Below w.heap.size w w1 := hs.trans hbw
  have hk : KeepD w w1 := by rw [hW]; exact (((KeepD.refl _).alloc _).alloc _)
  have Bl1g : Bx w1 (w.heap.size) 52 #[.int .i64 f, .int .i64 t, .float .f32 lv] := by rw [hW]; exact ((Bx.new' _ _ _ _ (by first | rfl | (simp; done))).alloc _)
  have Bl1r : Bx w1 (w.heap.size + 1) 52 #[.int .i64 0, .int .i64 0, .float .f32 0] := by rw [hW]; exact (Bx.new' _ _ _ _ (by first | rfl | (simp; done)))
  replace hs := hs1
  clear hs1
  have Blg := Bl1g
  clear Bl1g
  have Blr := Bl1r
  clear Bl1r
  clear hW hk hsz hbw
  have hz_w1 : w.heap.size + 1 < w1.heap.size := Blr.lt
  refine (HP.out _ hs).mono ?_
  rintro e w2 ⟨_, _, _, rfl, rfl, hq, rfl, hb⟩
  obtain ⟨shq, ahq, nhq, chq, Ahq, Nhq, Chq, rfl⟩ := hq.shape
  replace hs := bStep hs hb
  replace Blg := Blg.mono hb
  replace Blr := Blr.mono hb
  clear hb
  go_upto_region 2 with fail
  have ngx0 : w.heap.size + 1 < w2.heap.size := Blr.lt
  refine Code.abs ?_
  intro w3 hW
  have hsz := hs.size
  have lg := Blg.lt
  have lr := Blr.lt
  have hbw : Below w.heap.size w2 w3 := by rw [hW]; exact (Below.alloc (Below.refl w.heap.size w2) (by first | exact hs.size | (have := hs.size; simp; done) | (have := hs.size; simp; omega)) _)
  have hs1 : Below w.heap.size w w3 := hs.trans hbw
  have hk : KeepD w2 w3 := by rw [hW]; exact ((KeepD.refl _).alloc _)
  have Bl1g : Bx w3 (w.heap.size) 52 #[.int .i64 f, .int .i64 t, .float .f32 lv] := by rw [hW]; exact (Blg.alloc _)
  have Bl1r : Bx w3 (w.heap.size + 1) 52 #[.int .i64 0, .int .i64 0, .float .f32 0] := by rw [hW]; exact (Blr.alloc _)
  have Bl1x : Bx w3 (w2.heap.size) 38 #[.bool shq, .slice ahq nhq chq, .slice Ahq Nhq Chq] := by rw [hW]; exact (Bx.new' _ _ _ _ (by first | rfl | (simp; done)))
  replace hs := hs1
  clear hs1
  replace Blg := Bl1g
  clear Bl1g
  replace Blr := Bl1r
  clear Bl1r
  have Blx := Bl1x
  clear Bl1x
  replace hq := hq.keep hk
  clear hW hk hsz hbw lg lr
  have hz_w3 : w2.heap.size < w3.heap.size := Blx.lt
  have cr_0 : w3.cell? ⟨w.heap.size + 1, 0, none⟩ = some (.int .i64 0) := Blr.at 0 rfl
  have cr_1 : w3.cell? ⟨w.heap.size + 1, 1, none⟩ = some (.int .i64 0) := Blr.at 1 rfl
  have cr_2 : w3.cell? ⟨w.heap.size + 1, 2, none⟩ = some (.float .f32 0) := Blr.at 2 rfl
  have fr := Blr.free
  have Lr : w.heap.size + 1 < w3.heap.size := Blr.lt
  go_wp2
  refine bodyPost.abs ?_
  intro w4 hW
  have hsz := hs.size
  have lg := Blg.lt
  have lr := Blr.lt
  have lx := Blx.lt
  have hbw : Below w.heap.size w3 w4 := by rw [hW]; exact (Below.setCell (Below.setCell (Below.setCell (Below.refl w.heap.size w3) (by first | exact Nat.le_refl _ | omega | (have := hs.size; simp; done) | (have := hs.size; simp; omega)) _) (by first | exact Nat.le_refl _ | omega | (have := hs.size; simp; done) | (have := hs.size; simp; omega)) _) (by first | exact Nat.le_refl _ | omega | (have := hs.size; simp; done) | (have := hs.size; simp; omega)) _)
  have hs1 : Below w.heap.size w w4 := hs.trans hbw
  have hk : KeepD w3 w4 := by rw [hW]; exact (KeepD.set (KeepD.set (KeepD.set (KeepD.refl _) Blr.ty (by decide) _ _) (TyB.store Blr.ty _ _) (by decide) _ _) (TyB.store (TyB.store Blr.ty _ _) _ _) (by decide) _ _)
  have Bl1g : Bx w4 (w.heap.size) 52 #[.int .i64 f, .int .i64 t, .float .f32 lv] := by rw [hW]; exact (Bx.far (Bx.far (Bx.far Blg (by first | omega | (simp; done) | (simp; omega)) _) (by first | omega | (simp; done) | (simp; omega)) _) (by first | omega | (simp; done) | (simp; omega)) _)
  have Bl1r : Bx w4 (w.heap.size + 1) 52 #[.int .i64 0, .int .i64 0, .float .f32 0] := by rw [hW]; exact (Bx.set (Bx.set (Bx.set Blr 0 _ rfl) 1 _ rfl) 2 _ rfl)
  have Bl1x : Bx w4 (w2.heap.size) 38 #[.bool shq, .slice ahq nhq chq, .slice Ahq Nhq Chq] := by rw [hW]; exact (Bx.far (Bx.far (Bx.far Blx (by first | omega | (simp; done) | (simp; omega)) _) (by first | omega | (simp; done) | (simp; omega)) _) (by first | omega | (simp; done) | (simp; omega)) _)
  replace hs := hs1
  clear hs1
  replace Blg := Bl1g
  clear Bl1g
  replace Blr := Bl1r
  clear Bl1r
  replace Blx := Bl1x
  clear Bl1x
  clear hW hk hsz hbw lg lr lx
  have cr_0 : w4.cell? ⟨w.heap.size + 1, 0, none⟩ = some (.int .i64 0) := Blr.at 0 rfl
  have cr_1 : w4.cell? ⟨w.heap.size + 1, 1, none⟩ = some (.int .i64 0) := Blr.at 1 rfl
  have cr_2 : w4.cell? ⟨w.heap.size + 1, 2, none⟩ = some (.float .f32 0) := Blr.at 2 rfl
  exact bodyPost_ret (v := .tuple #[.agg #[.int .i64 0, .int .i64 0, .float .f32 0], .int .i64 1]) (by simp [results, Tryz.results20, go_sem, cr_0, cr_1, cr_2]) rfl ⟨_, _, rfl, rfl, rfl, hs⟩
set_option maxRecDepth 100000 in
set_option maxHeartbeats 4000000 in
theorem r7_Follow_f1 (ao : Option Addr) (N cap : Nat) (f t a b : Int) (lv lw : Nat) (n pe : Int) (q : Rat) (w : World) (hN : N ≤ 256) (hn0 : 0 ≤ n) (hn1 : n < N) (hpe : pe = 0) (h0 : ¬ a < -256) (h1 : 256 < a)
    (hp : ∀ w' : World, Below w.heap.size w w' → Calls Tryz.prog 15 #[.slice ao N cap, .agg #[.int .i64 f, .int .i64 t, .float .f32 lv]] w' (Ret3 (fun _ v => v = .int .i64 n) (fun w v => RV w v q) (fun _ v => v = .int .i64 pe) w')) :
    Calls Tryz.prog 20 #[.slice ao N cap, .agg #[.int .i64 f, .int .i64 t, .float .f32 lv], .int .i64 a, .int .i64 b, .float .f32 lw] w (Ret2 (fun _ v => v = .agg #[.int .i64 0, .int .i64 0, .float .f32 0]) (fun _ v => v = .int .i64 1) w) := by
  have hs := Below.refl w.heap.size w
  have HP := Lib.hid hp
  subst hpe
  have d0 : (a < -256) = False := eq_false (by omega)
  have d1 : (256 < a) = True := eq_true (by omega)
  clear hp
  go_enter Tryz.func20, Tryz.ntmps20
  go_wp2_with fail
  refine Calls.abs ?_
  intro w1 hW
  have hsz := hs.size
  have hbw : Below w.heap.size w w1 := by rw [hW]; exact (Below.alloc (Below.alloc (Below.refl w.heap.size w) (by first | exact hs.size | (have := hs.size; simp; done) | (have := hs.size; simp; omega)) _) (by first | exact hs.size | (have := hs.size; simp; done) | (have := hs.size; simp; omega)) _)
  have hs1 : Below w.heap.size w w1 := hs.trans hbw
  have hk : KeepD w w1 := by rw [hW]; exact (((KeepD.refl _).alloc _).alloc _)
  have Bl1g : Bx w1 (w.heap.size) 52 #[.int .i64 f, .int .i64 t, .float .f32 lv] := by rw [hW]; exact ((Bx.new' _ _ _ _ (by first | rfl | (simp; done))).alloc _)
  have Bl1r : Bx w1 (w.heap.size + 1) 52 #[.int .i64 0, .int .i64 0, .float .f32 0] := by rw [hW]; exact (Bx.new' _ _ _ _ (by first | rfl | (simp; done)))
  replace hs := hs1
  clear hs1
  have Blg := Bl1g
  clear Bl1g
  have Blr := Bl1r
  clear Bl1r
  clear hW hk hsz hbw
  have hz_w1 : w.heap.size + 1 < w1.heap.size := Blr.lt
  refine (HP.out _ hs).mono ?_
  rintro e w2 ⟨_, _, _, rfl, rfl, hq, rfl, hb⟩
  obtain ⟨shq, ahq, nhq, chq, Ahq, Nhq, Chq, rfl⟩ := hq.shape
  replace hs := bStep hs hb
  replace Blg := Blg.mono hb
  replace Blr := Blr.mono hb
  clear hb
  go_upto_region 2 with fail
  have ngx0 : w.heap.size + 1 < w2.heap.size := Blr.lt
  refine Code.abs ?_
  intro w3 hW
  have hsz := hs.size
  have lg := Blg.lt
  have lr := Blr.lt
  have hbw : Below w.heap.size w2 w3 := by rw [hW]; exact (Below.alloc (Below.refl w.heap.size w2) (by first | exact hs.size | (have := hs.size; simp; done) | (have := hs.size; simp; omega)) _)
  have hs1 : Below w.heap.size w w3 := hs.trans hbw
  have hk : KeepD w2 w3 := by rw [hW]; exact ((KeepD.refl _).alloc _)
  have Bl1g : Bx w3 (w.heap.size) 52 #[.int .i64 f, .int .i64 t, .float .f32 lv] := by rw [hW]; exact (Blg.alloc _)
  have Bl1r : Bx w3 (w.heap.size + 1) 52 #[.int .i64 0, .int .i64 0, .float .f32 0] := by rw [hW]; exact (Blr.alloc _)
  have Bl1x : Bx w3 (w2.heap.size) 38 #[.bool shq, .slice ahq nhq chq, .slice Ahq Nhq Chq] := by rw [hW]; exact (Bx.new' _ _ _ _ (by first | rfl | (simp; done)))
  replace hs := hs1
  clear hs1
  replace Blg := Bl1g
  clear Bl1g
  replace Blr := Bl1r
  clear Bl1r
  have Blx := Bl1x
  clear Bl1x
  replace hq := hq.keep hk
  clear hW hk hsz hbw lg lr
  have hz_w3 : w2.heap.size < w3.heap.size := Blx.lt
  have cr_0 : w3.cell? ⟨w.heap.size + 1, 0, none⟩ = some (.int .i64 0) := Blr.at 0 rfl
  have cr_1 : w3.cell? ⟨w.heap.size + 1, 1, none⟩ = some (.int .i64 0) := Blr.at 1 rfl
  have cr_2 : w3.cell? ⟨w.heap.size + 1, 2, none⟩ = some (.float .f32 0) := Blr.at 2 rfl
  have fr := Blr.free
  have Lr : w.heap.size + 1 < w3.heap.size := Blr.lt
  go_wp2
  refine bodyPost.abs ?_
  intro w4 hW
  have hsz := hs.size
  have lg := Blg.lt
  have lr := Blr.lt
  have lx := Blx.lt
  have hbw : Below w.heap.size w3 w4 := by rw [hW]; exact (Below.setCell (Below.setCell (Below.setCell (Below.refl w.heap.size w3) (by first | exact Nat.le_refl _ | omega | (have := hs.size; simp; done) | (have := hs.size; simp; omega)) _) (by first | exact Nat.le_refl _ | omega | (have := hs.size; simp; done) | (have := hs.size; simp; omega)) _) (by first | exact Nat.le_refl _ | omega | (have := hs.size; simp; done) | (have := hs.size; simp; omega)) _)
  have hs1 : Below w.heap.size w w4 := hs.trans hbw
  have hk : KeepD w3 w4 := by rw [hW]; exact (KeepD.set (KeepD.set (KeepD.set (KeepD.refl _) Blr.ty (by decide) _ _) (TyB.store Blr.ty _ _) (by decide) _ _) (TyB.store (TyB.store Blr.ty _ _) _ _) (by decide) _ _)
  have Bl1g : Bx w4 (w.heap.size) 52 #[.int .i64 f, .int .i64 t, .float .f32 lv] := by rw [hW]; exact (Bx.far (Bx.far (Bx.far Blg (by first | omega | (simp; done) | (simp; omega)) _) (by first | omega | (simp; done) | (simp; omega)) _) (by first | omega | (simp; done) | (simp; omega)) _)
  have Bl1r : Bx w4 (w.heap.size + 1) 52 #[.int .i64 0, .int .i64 0, .float .f32 0] := by rw [hW]; exact (Bx.set (Bx.set (Bx.set Blr 0 _ rfl) 1 _ rfl) 2 _ rfl)
  have Bl1x : Bx w4 (w2.heap.size) 38 #[.bool shq, .slice ahq nhq chq, .slice Ahq Nhq Chq] := by rw [hW]; exact (Bx.far (Bx.far (Bx.far Blx (by first | omega | (simp; done) | (simp; omega)) _) (by first | omega | (simp; done) | (simp; omega)) _) (by first | omega | (simp; done) | (simp; omega)) _)
  replace hs := hs1
  clear hs1
  replace Blg := Bl1g
  clear Bl1g
  replace Blr := Bl1r
  clear Bl1r
  replace Blx := Bl1x
  clear Bl1x
  clear hW hk hsz hbw lg lr lx
  have cr_0 : w4.cell? ⟨w.heap.size + 1, 0, none⟩ = some (.int .i64 0) := Blr.at 0 rfl
  have cr_1 : w4.cell? ⟨w.heap.size + 1, 1, none⟩ = some (.int .i64 0) := Blr.at 1 rfl
  have cr_2 : w4.cell? ⟨w.heap.size + 1, 2, none⟩ = some (.float .f32 0) := Blr.at 2 rfl
  exact bodyPost_ret (v := .tuple #[.agg #[.int .i64 0, .int .i64 0, .float .f32 0], .int .i64 1]) (by simp [results, Tryz.results20, go_sem, cr_0, cr_1, cr_2]) rfl ⟨_, _, rfl, rfl, rfl, hs⟩
set_option maxRecDepth 100000 in
set_option maxHeartbeats 4000000 in
theorem r7_Follow_f2 (ao : Option Addr) (N cap : Nat) (f t a b : Int) (lv lw : Nat) (n pe : Int) (q : Rat) (w : World) (hN : N ≤ 256) (hn0 : 0 ≤ n) (hn1 : n < N) (hpe : pe = 0) (h0 : ¬ a < -256) (h1 : ¬ 256 < a) (h2 : b < -256)
    (hp : ∀ w' : World, Below w.heap.size w w' → Calls Tryz.prog 15 #[.slice ao N cap, .agg #[.int .i64 f, .int .i64 t, .float .f32 lv]] w' (Ret3 (fun _ v => v = .int .i64 n) (fun w v => RV w v q) (fun _ v => v = .int .i64 pe) w')) :
    Calls Tryz.prog 20 #[.slice ao N cap, .agg #[.int .i64 f, .int .i64 t, .float .f32 lv], .int .i64 a, .int .i64 b, .float .f32 lw] w (Ret2 (fun _ v => v = .agg #[.int .i64 0, .int .i64 0, .float .f32 0]) (fun _ v => v = .int .i64 1) w) := by
  have hs := Below.refl w.heap.size w
  have HP := Lib.hid hp
  subst hpe
  have d0 : (a < -256) = False := eq_false (by omega)
  have d1 : (256 < a) = False := eq_false (by omega)
  have d2 : (b < -256) = True := eq_true (by omega)
  clear hp
  go_enter Tryz.func20, Tryz.ntmps20
  go_wp2_with fail
  refine Calls.abs ?_
  intro w1 hW
  have hsz := hs.size
  have hbw : Below w.heap.size w w1 := by rw [hW]; exact (Below.alloc (Below.alloc (Below.refl w.heap.size w) (by first | exact hs.size | (have := hs.size; simp; done) | (have := hs.size; simp; omega)) _) (by first | exact hs.size | (have := hs.size; simp; done) | (have := hs.size; simp; omega)) _)
  have hs1 : Below w.heap.size w w1 := hs.trans hbw
  have hk : KeepD w w1 := by rw [hW]; exact (((KeepD.refl _).alloc _).alloc _)
  have Bl1g : Bx w1 (w.heap.size) 52 #[.int .i64 f, .int .i64 t, .float .f32 lv] := by rw [hW]; exact ((Bx.new' _ _ _ _ (by first | rfl | (simp; done))).alloc _)
  have Bl1r : Bx w1 (w.heap.size + 1) 52 #[.int .i64 0, .int .i64 0, .float .f32 0] := by rw [hW]; exact (Bx.new' _ _ _ _ (by first | rfl | (simp; done)))
  replace hs := hs1
  clear hs1
  have Blg := Bl1g
  clear Bl1g
  have Blr := Bl1r
  clear Bl1r
  clear hW hk hsz hbw
  have hz_w1 : w.heap.size + 1 < w1.heap.size := Blr.lt
  refine (HP.out _ hs).mono ?_
  rintro e w2 ⟨_, _, _, rfl, rfl, hq, rfl, hb⟩
  obtain ⟨shq, ahq, nhq, chq, Ahq, Nhq, Chq, rfl⟩ := hq.shape
  replace hs := bStep hs hb
  replace Blg := Blg.mono hb
  replace Blr := Blr.mono hb
  clear hb
  go_upto_region 2 with fail
  have ngx0 : w.heap.size + 1 < w2.heap.size := Blr.lt
  refine Code.abs ?_
  intro w3 hW
  have hsz := hs.size
  have lg := Blg.lt
  have lr := Blr.lt
  have hbw : Below w.heap.size w2 w3 := by rw [hW]; exact (Below.alloc (Below.refl w.heap.size w2) (by first | exact hs.size | (have := hs.size; simp; done) | (have := hs.size; simp; omega)) _)
  have hs1 : Below w.heap.size w w3 := hs.trans hbw
  have hk : KeepD w2 w3 := by rw [hW]; exact ((KeepD.refl _).alloc _)
  have Bl1g : Bx w3 (w.heap.size) 52 #[.int .i64 f, .int .i64 t, .float .f32 lv] := by rw [hW]; exact (Blg.alloc _)
  have Bl1r : Bx w3 (w.heap.size + 1) 52 #[.int .i64 0, .int .i64 0, .float .f32 0] := by rw [hW]; exact (Blr.alloc _)
  have Bl1x : Bx w3 (w2.heap.size) 38 #[.bool shq, .slice ahq nhq chq, .slice Ahq Nhq Chq] := by rw [hW]; exact (Bx.new' _ _ _ _ (by first | rfl | (simp; done)))
  replace hs := hs1
  clear hs1
  replace Blg := Bl1g
  clear Bl1g
  replace Blr := Bl1r
  clear Bl1r
  have Blx := Bl1x
  clear Bl1x
  replace hq := hq.keep hk
  clear hW hk hsz hbw lg lr
  have hz_w3 : w2.heap.size < w3.heap.size := Blx.lt
  have cr_0 : w3.cell? ⟨w.heap.size + 1, 0, none⟩ = some (.int .i64 0) := Blr.at 0 rfl
  have cr_1 : w3.cell? ⟨w.heap.size + 1, 1, none⟩ = some (.int .i64 0) := Blr.at 1 rfl
  have cr_2 : w3.cell? ⟨w.heap.size + 1, 2, none⟩ = some (.float .f32 0) := Blr.at 2 rfl
  have fr := Blr.free
  have Lr : w.heap.size + 1 < w3.heap.size := Blr.lt
  go_wp2
  refine bodyPost.abs ?_
  intro w4 hW
  have hsz := hs.size
  have lg := Blg.lt
  have lr := Blr.lt
  have lx := Blx.lt
  have hbw : Below w.heap.size w3 w4 := by rw [hW]; exact (Below.setCell (Below.setCell (Below.setCell (Below.refl w.heap.size w3) (by first | exact Nat.le_refl _ | omega | (have := hs.size; simp; done) | (have := hs.size; simp; omega)) _) (by first | exact Nat.le_refl _ | omega | (have := hs.size; simp; done) | (have := hs.size; simp; omega)) _) (by first | exact Nat.le_refl _ | omega | (have := hs.size; simp; done) | (have := hs.size; simp; omega)) _)
  have hs1 : Below w.heap.size w w4 := hs.trans hbw
  have hk : KeepD w3 w4 := by rw [hW]; exact (KeepD.set (KeepD.set (KeepD.set (KeepD.refl _) Blr.ty (by decide) _ _) (TyB.store Blr.ty _ _) (by decide) _ _) (TyB.store (TyB.store Blr.ty _ _) _ _) (by decide) _ _)
  have Bl1g : Bx w4 (w.heap.size) 52 #[.int .i64 f, .int .i64 t, .float .f32 lv] := by rw [hW]; exact (Bx.far (Bx.far (Bx.far Blg (by first | omega | (simp; done) | (simp; omega)) _) (by first | omega | (simp; done) | (simp; omega)) _) (by first | omega | (simp; done) | (simp; omega)) _)
  have Bl1r : Bx w4 (w.heap.size + 1) 52 #[.int .i64 0, .int .i64 0, .float .f32 0] := by rw [hW]; exact (Bx.set (Bx.set (Bx.set Blr 0 _ rfl) 1 _ rfl) 2 _ rfl)
  have Bl1x : Bx w4 (w2.heap.size) 38 #[.bool shq, .slice ahq nhq chq, .slice Ahq Nhq Chq] := by rw [hW]; exact (Bx.far (Bx.far (Bx.far Blx (by first | omega | (simp; done) | (simp; omega)) _) (by first | omega | (simp; done) | (simp; omega)) _) (by first | omega | (simp; done) | (simp; omega)) _)
  replace hs := hs1
  clear hs1
  replace Blg := Bl1g
  clear Bl1g
  replace Blr := Bl1r
  clear Bl1r
  replace Blx := Bl1x
  clear Bl1x
  clear hW hk hsz hbw lg lr lx
  have cr_0 : w4.cell? ⟨w.heap.size + 1, 0, none⟩ = some (.int .i64 0) := Blr.at 0 rfl
  have cr_1 : w4.cell? ⟨w.heap.size + 1, 1, none⟩ = some (.int .i64 0) := Blr.at 1 rfl
  have cr_2 : w4.cell? ⟨w.heap.size + 1, 2, none⟩ = some (.float .f32 0) := Blr.at 2 rfl
  exact bodyPost_ret (v := .tuple #[.agg #[.int .i64 0, .int .i64 0, .float .f32 0], .int .i64 1]) (by simp [results, Tryz.results20, go_sem, cr_0, cr_1, cr_2]) rfl ⟨_, _, rfl, rfl, rfl, hs⟩
set_option maxRecDepth 100000 in
set_option maxHeartbeats 4000000 in
theorem r7_Follow_f3 (ao : Option Addr) (N cap : Nat) (f t a b : Int) (lv lw : Nat) (n pe : Int) (q : Rat) (w : World) (hN : N ≤ 256) (hn0 : 0 ≤ n) (hn1 : n < N) (hpe : pe = 0) (h0 : ¬ a < -256) (h1 : ¬ 256 < a) (h2 : ¬ b < -256) (h3 : 256 < b)
    (hp : ∀ w' : World, Below w.heap.size w w' → Calls Tryz.prog 15 #[.slice ao N cap, .agg #[.int .i64 f, .int .i64 t, .float .f32 lv]] w' (Ret3 (fun _ v => v = .int .i64 n) (fun w v => RV w v q) (fun _ v => v = .int .i64 pe) w')) :
    Calls Tryz.prog 20 #[.slice ao N cap, .agg #[.int .i64 f, .int .i64 t, .float .f32 lv], .int .i64 a, .int .i64 b, .float .f32 lw] w (Ret2 (fun _ v => v = .agg #[.int .i64 0, .int .i64 0, .float .f32 0]) (fun _ v => v = .int .i64 1) w) := by
  have hs := Below.refl w.heap.size w
  have HP := Lib.hid hp
  subst hpe
  have d0 : (a < -256) = False := eq_false (by omega)
  have d1 : (256 < a) = False := eq_false (by omega)
  have d2 : (b < -256) = False := eq_false (by omega)
  have d3 : (256 < b) = True := eq_true (by omega)
  clear hp
  go_enter Tryz.func20, Tryz.ntmps20
  go_wp2_with fail
  refine Calls.abs ?_
  intro w1 hW
  have hsz := hs.size
  have hbw : Below w.heap.size w w1 := by rw [hW]; exact (Below.alloc (Below.alloc (Below.refl w.heap.size w) (by first | exact hs.size | (have := hs.size; simp; done) | (have := hs.size; simp; omega)) _) (by first | exact hs.size | (have := hs.size; simp; done) | (have := hs.size; simp; omega)) _)
  have hs1 : Below w.heap.size w w1 := hs.trans hbw
  have hk : KeepD w w1 := by rw [hW]; exact (((KeepD.refl _).alloc _).alloc _)
  have Bl1g : Bx w1 (w.heap.size) 52 #[.int .i64 f, .int .i64 t, .float .f32 lv] := by rw [hW]; exact ((Bx.new' _ _ _ _ (by first | rfl | (simp; done))).alloc _)
  have Bl1r : Bx w1 (w.heap.size + 1) 52 #[.int .i64 0, .int .i64 0, .float .f32 0] := by rw [hW]; exact (Bx.new' _ _ _ _ (by first | rfl | (simp; done)))
  replace hs := hs1
  clear hs1
  have Blg := Bl1g
  clear Bl1g
  have Blr := Bl1r
  clear Bl1r
  clear hW hk hsz hbw
  have hz_w1 : w.heap.size + 1 < w1.heap.size := Blr.lt
  refine (HP.out _ hs).mono ?_
  rintro e w2 ⟨_, _, _, rfl, rfl, hq, rfl, hb⟩
  obtain ⟨shq, ahq, nhq, chq, Ahq, Nhq, Chq, rfl⟩ := hq.shape
  replace hs := bStep hs hb
  replace Blg := Blg.mono hb
  replace Blr := Blr.mono hb
  clear hb
  go_upto_region 2 with fail
  have ngx0 : w.heap.size + 1 < w2.heap.size := Blr.lt
  refine Code.abs ?_
  intro w3 hW
  have hsz := hs.size
  have lg := Blg.lt
  have lr := Blr.lt
  have hbw : Below w.heap.size w2 w3 := by rw [hW]; exact (Below.alloc (Below.refl w.heap.size w2) (by first | exact hs.size | (have := hs.size; simp; done) | (have := hs.size; simp; omega)) _)
  have hs1 : Below w.heap.size w w3 := hs.trans hbw
  have hk : KeepD w2 w3 := by rw [hW]; exact ((KeepD.refl _).alloc _)
  have Bl1g : Bx w3 (w.heap.size) 52 #[.int .i64 f, .int .i64 t, .float .f32 lv] := by rw [hW]; exact (Blg.alloc _)
  have Bl1r : Bx w3 (w.heap.size + 1) 52 #[.int .i64 0, .int .i64 0, .float .f32 0] := by rw [hW]; exact (Blr.alloc _)
  have Bl1x : Bx w3 (w2.heap.size) 38 #[.bool shq, .slice ahq nhq chq, .slice Ahq Nhq Chq] := by rw [hW]; exact (Bx.new' _ _ _ _ (by first | rfl | (simp; done)))
  replace hs := hs1
  clear hs1
  replace Blg := Bl1g
  clear Bl1g
  replace Blr := Bl1r
  clear Bl1r
  have Blx := Bl1x
  clear Bl1x
  replace hq := hq.keep hk
  clear hW hk hsz hbw lg lr
  have hz_w3 : w2.heap.size < w3.heap.size := Blx.lt
  have cr_0 : w3.cell? ⟨w.heap.size + 1, 0, none⟩ = some (.int .i64 0) := Blr.at 0 rfl
  have cr_1 : w3.cell? ⟨w.heap.size + 1, 1, none⟩ = some (.int .i64 0) := Blr.at 1 rfl
  have cr_2 : w3.cell? ⟨w.heap.size + 1, 2, none⟩ = some (.float .f32 0) := Blr.at 2 rfl
  have fr := Blr.free
  have Lr : w.heap.size + 1 < w3.heap.size := Blr.lt
  go_wp2
  refine bodyPost.abs ?_
  intro w4 hW
  have hsz := hs.size
  have lg := Blg.lt
  have lr := Blr.lt
  have lx := Blx.lt
  have hbw : Below w.heap.size w3 w4 := by rw [hW]; exact (Below.setCell (Below.setCell (Below.setCell (Below.refl w.heap.size w3) (by first | exact Nat.le_refl _ | omega | (have := hs.size; simp; done) | (have := hs.size; simp; omega)) _) (by first | exact Nat.le_refl _ | omega | (have := hs.size; simp; done) | (have := hs.size; simp; omega)) _) (by first | exact Nat.le_refl _ | omega | (have := hs.size; simp; done) | (have := hs.size; simp; omega)) _)
  have hs1 : Below w.heap.size w w4 := hs.trans hbw
  have hk : KeepD w3 w4 := by rw [hW]; exact (KeepD.set (KeepD.set (KeepD.set (KeepD.refl _) Blr.ty (by decide) _ _) (TyB.store Blr.ty _ _) (by decide) _ _) (TyB.store (TyB.store Blr.ty _ _) _ _) (by decide) _ _)
  have Bl1g : Bx w4 (w.heap.size) 52 #[.int .i64 f, .int .i64 t, .float .f32 lv] := by rw [hW]; exact (Bx.far (Bx.far (Bx.far Blg (by first | omega | (simp; done) | (simp; omega)) _) (by first | omega | (simp; done) | (simp; omega)) _) (by first | omega | (simp; done) | (simp; omega)) _)
  have Bl1r : Bx w4 (w.heap.size + 1) 52 #[.int .i64 0, .int .i64 0, .float .f32 0] := by rw [hW]; exact (Bx.set (Bx.set (Bx.set Blr 0 _ rfl) 1 _ rfl) 2 _ rfl)
  have Bl1x : Bx w4 (w2.heap.size) 38 #[.bool shq, .slice ahq nhq chq, .slice Ahq Nhq Chq] := by rw [hW]; exact (Bx.far (Bx.far (Bx.far Blx (by first | omega | (simp; done) | (simp; omega)) _) (by first | omega | (simp; done) | (simp; omega)) _) (by first | omega | (simp; done) | (simp; omega)) _)
  replace hs := hs1
  clear hs1
  replace Blg := Bl1g
  clear Bl1g
  replace Blr := Bl1r
  clear Bl1r
  replace Blx := Bl1x
  clear Bl1x
  clear hW hk hsz hbw lg lr lx
  have cr_0 : w4.cell? ⟨w.heap.size + 1, 0, none⟩ = some (.int .i64 0) := Blr.at 0 rfl
  have cr_1 : w4.cell? ⟨w.heap.size + 1, 1, none⟩ = some (.int .i64 0) := Blr.at 1 rfl
  have cr_2 : w4.cell? ⟨w.heap.size + 1, 2, none⟩ = some (.float .f32 0) := Blr.at 2 rfl
  exact bodyPost_ret (v := .tuple #[.agg #[.int .i64 0, .int .i64 0, .float .f32 0], .int .i64 1]) (by simp [results, Tryz.results20, go_sem, cr_0, cr_1, cr_2]) rfl ⟨_, _, rfl, rfl, rfl, hs⟩
set_option maxRecDepth 100000 in
set_option maxHeartbeats 4000000 in
theorem r7_Follow_e5 (ao : Option Addr) (N cap : Nat) (f t a b : Int) (lv lw : Nat) (n pe : Int) (q : Rat) (w : World) (hN : N ≤ 256) (hn0 : 0 ≤ n) (hn1 : n < N) (hpe : pe = 0) (h0 : ¬ a < -256) (h1 : ¬ 256 < a) (h2 : ¬ b < -256) (h3 : ¬ 256 < b) (hg : gateE (n + a) (n + b) N lw = 1)
    (hp : ∀ w' : World, Below w.heap.size w w' → Calls Tryz.prog 15 #[.slice ao N cap, .agg #[.int .i64 f, .int .i64 t, .float .f32 lv]] w' (Ret3 (fun _ v => v = .int .i64 n) (fun w v => RV w v q) (fun _ v => v = .int .i64 pe) w')) :
    Calls Tryz.prog 20 #[.slice ao N cap, .agg #[.int .i64 f, .int .i64 t, .float .f32 lv], .int .i64 a, .int .i64 b, .float .f32 lw] w (Ret2 (fun _ v => v = .agg #[.int .i64 0, .int .i64 0, .float .f32 0]) (fun _ v => v = .int .i64 1) w) := by
  have hs := Below.refl w.heap.size w
  have HP := Lib.hid hp
  subst hpe
  have d0 : (a < -256) = False := eq_false (by omega)
  have d1 : (256 < a) = False := eq_false (by omega)
  have d2 : (b < -256) = False := eq_false (by omega)
  have d3 : (256 < b) = False := eq_false (by omega)
  have wa : IntKind.i64.wrap (n + a) = n + a := IntWalk.i64_in _ (by omega)
  have wb : IntKind.i64.wrap (n + b) = n + b := IntWalk.i64_in _ (by omega)
  have HC := Lib.hid (fun w => hg ▸ r7_gate (n + a) (n + b) (N : Int) lw w)
  clear hg
  clear hp
  go_enter Tryz.func20, Tryz.ntmps20
  go_wp2_with fail
  refine Calls.abs ?_
  intro w1 hW
  have hsz := hs.size
  have hbw : Below w.heap.size w w1 := by rw [hW]; exact (Below.alloc (Below.alloc (Below.refl w.heap.size w) (by first | exact hs.size | (have := hs.size; simp; done) | (have := hs.size; simp; omega)) _) (by first | exact hs.size | (have := hs.size; simp; done) | (have := hs.size; simp; omega)) _)
  have hs1 : Below w.heap.size w w1 := hs.trans hbw
  have hk : KeepD w w1 := by rw [hW]; exact (((KeepD.refl _).alloc _).alloc _)
  have Bl1g : Bx w1 (w.heap.size) 52 #[.int .i64 f, .int .i64 t, .float .f32 lv] := by rw [hW]; exact ((Bx.new' _ _ _ _ (by first | rfl | (simp; done))).alloc _)
  have Bl1r : Bx w1 (w.heap.size + 1) 52 #[.int .i64 0, .int .i64 0, .float .f32 0] := by rw [hW]; exact (Bx.new' _ _ _ _ (by first | rfl | (simp; done)))
  replace hs := hs1
  clear hs1
  have Blg := Bl1g
  clear Bl1g
  have Blr := Bl1r
  clear Bl1r
  clear hW hk hsz hbw
  have hz_w1 : w.heap.size + 1 < w1.heap.size := Blr.lt
  refine (HP.out _ hs).mono ?_
  rintro e w2 ⟨_, _, _, rfl, rfl, hq, rfl, hb⟩
  obtain ⟨shq, ahq, nhq, chq, Ahq, Nhq, Chq, rfl⟩ := hq.shape
  replace hs := bStep hs hb
  replace Blg := Blg.mono hb
  replace Blr := Blr.mono hb
  clear hb
  go_upto_region 2 with fail
  have ngx0 : w.heap.size + 1 < w2.heap.size := Blr.lt
  refine Code.abs ?_
  intro w3 hW
  have hsz := hs.size
  have lg := Blg.lt
  have lr := Blr.lt
  have hbw : Below w.heap.size w2 w3 := by rw [hW]; exact (Below.alloc (Below.refl w.heap.size w2) (by first | exact hs.size | (have := hs.size; simp; done) | (have := hs.size; simp; omega)) _)
  have hs1 : Below w.heap.size w w3 := hs.trans hbw
  have hk : KeepD w2 w3 := by rw [hW]; exact ((KeepD.refl _).alloc _)
  have Bl1g : Bx w3 (w.heap.size) 52 #[.int .i64 f, .int .i64 t, .float .f32 lv] := by rw [hW]; exact (Blg.alloc _)
  have Bl1r : Bx w3 (w.heap.size + 1) 52 #[.int .i64 0, .int .i64 0, .float .f32 0] := by rw [hW]; exact (Blr.alloc _)
  have Bl1x : Bx w3 (w2.heap.size) 38 #[.bool shq, .slice ahq nhq chq, .slice Ahq Nhq Chq] := by rw [hW]; exact (Bx.new' _ _ _ _ (by first | rfl | (simp; done)))
  replace hs := hs1
  clear hs1
  replace Blg := Bl1g
  clear Bl1g
  replace Blr := Bl1r
  clear Bl1r
  have Blx := Bl1x
  clear Bl1x
  replace hq := hq.keep hk
  clear hW hk hsz hbw lg lr
  have hz_w3 : w2.heap.size < w3.heap.size := Blx.lt
  have ngx : w.heap.size + 1 < w3.heap.size := Blr.lt
  go_wp2_with fail
  refine Calls.abs ?_
  intro w4 hW
  have hsz := hs.size
  have lg := Blg.lt
  have lr := Blr.lt
  have lx := Blx.lt
  have hbw : Below w.heap.size w3 w4 := by rw [hW]; exact (Below.alloc (Below.refl w.heap.size w3) (by first | exact hs.size | (have := hs.size; simp; done) | (have := hs.size; simp; omega)) _)
  have hs1 : Below w.heap.size w w4 := hs.trans hbw
  have hk : KeepD w3 w4 := by rw [hW]; exact ((KeepD.refl _).alloc _)
  have Bl1g : Bx w4 (w.heap.size) 52 #[.int .i64 f, .int .i64 t, .float .f32 lv] := by rw [hW]; exact (Blg.alloc _)
  have Bl1r : Bx w4 (w.heap.size + 1) 52 #[.int .i64 0, .int .i64 0, .float .f32 0] := by rw [hW]; exact (Blr.alloc _)
  have Bl1x : Bx w4 (w2.heap.size) 38 #[.bool shq, .slice ahq nhq chq, .slice Ahq Nhq Chq] := by rw [hW]; exact (Blx.alloc _)
  have Bl1h : Bx w4 (w3.heap.size) 52 #[.int .i64 (n + a), .int .i64 (n + b), .float .f32 lw] := by rw [hW]; exact (Bx.new' _ _ _ _ (by first | rfl | (simp; done)))
  replace hs := hs1
  clear hs1
  replace Blg := Bl1g
  clear Bl1g
  replace Blr := Bl1r
  clear Bl1r
  replace Blx := Bl1x
  clear Bl1x
  have Blh := Bl1h
  clear Bl1h
  replace hq := hq.keep hk
  clear hW hk hsz hbw lg lr lx
  have hz_w4 : w3.heap.size < w4.heap.size := Blh.lt
  refine (HC.out _).mono ?_
  rintro e w5 ⟨rfl, hb⟩
  replace hs := bStep hs hb
  replace Blg := Blg.mono hb
  replace Blr := Blr.mono hb
  replace Blx := Blx.mono hb
  replace Blh := Blh.mono hb
  replace hq := hq.mono hb
  clear hb
  have cr_0 : w5.cell? ⟨w.heap.size + 1, 0, none⟩ = some (.int .i64 0) := Blr.at 0 rfl
  have cr_1 : w5.cell? ⟨w.heap.size + 1, 1, none⟩ = some (.int .i64 0) := Blr.at 1 rfl
  have cr_2 : w5.cell? ⟨w.heap.size + 1, 2, none⟩ = some (.float .f32 0) := Blr.at 2 rfl
  have fr := Blr.free
  have Lr : w.heap.size + 1 < w5.heap.size := Blr.lt
  go_wp2
  refine bodyPost.abs ?_
  intro w6 hW
  have hsz := hs.size
  have lg := Blg.lt
  have lr := Blr.lt
  have lx := Blx.lt
  have lh := Blh.lt
  have hbw : Below w.heap.size w5 w6 := by rw [hW]; exact (Below.setCell (Below.setCell (Below.setCell (Below.refl w.heap.size w5) (by first | exact Nat.le_refl _ | omega | (have := hs.size; simp; done) | (have := hs.size; simp; omega)) _) (by first | exact Nat.le_refl _ | omega | (have := hs.size; simp; done) | (have := hs.size; simp; omega)) _) (by first | exact Nat.le_refl _ | omega | (have := hs.size; simp; done) | (have := hs.size; simp; omega)) _)
  have hs1 : Below w.heap.size w w6 := hs.trans hbw
  have hk : KeepD w5 w6 := by rw [hW]; exact (KeepD.set (KeepD.set (KeepD.set (KeepD.refl _) Blr.ty (by decide) _ _) (TyB.store Blr.ty _ _) (by decide) _ _) (TyB.store (TyB.store Blr.ty _ _) _ _) (by decide) _ _)
  have Bl1g : Bx w6 (w.heap.size) 52 #[.int .i64 f, .int .i64 t, .float .f32 lv] := by rw [hW]; exact (Bx.far (Bx.far (Bx.far Blg (by first | omega | (simp; done) | (simp; omega)) _) (by first | omega | (simp; done) | (simp; omega)) _) (by first | omega | (simp; done) | (simp; omega)) _)
  have Bl1r : Bx w6 (w.heap.size + 1) 52 #[.int .i64 0, .int .i64 0, .float .f32 0] := by rw [hW]; exact (Bx.set (Bx.set (Bx.set Blr 0 _ rfl) 1 _ rfl) 2 _ rfl)
  have Bl1x : Bx w6 (w2.heap.size) 38 #[.bool shq, .slice ahq nhq chq, .slice Ahq Nhq Chq] := by rw [hW]; exact (Bx.far (Bx.far (Bx.far Blx (by first | omega | (simp; done) | (simp; omega)) _) (by first | omega | (simp; done) | (simp; omega)) _) (by first | omega | (simp; done) | (simp; omega)) _)
  have Bl1h : Bx w6 (w3.heap.size) 52 #[.int .i64 (n + a), .int .i64 (n + b), .float .f32 lw] := by rw [hW]; exact (Bx.far (Bx.far (Bx.far Blh (by first | omega | (simp; done) | (simp; omega)) _) (by first | omega | (simp; done) | (simp; omega)) _) (by first | omega | (simp; done) | (simp; omega)) _)
  replace hs := hs1
  clear hs1
  replace Blg := Bl1g
  clear Bl1g
  replace Blr := Bl1r
  clear Bl1r
  replace Blx := Bl1x
  clear Bl1x
  replace Blh := Bl1h
  clear Bl1h
  clear hW hk hsz hbw lg lr lx lh
  have cr_0 : w6.cell? ⟨w.heap.size + 1, 0, none⟩ = some (.int .i64 0) := Blr.at 0 rfl
  have cr_1 : w6.cell? ⟨w.heap.size + 1, 1, none⟩ = some (.int .i64 0) := Blr.at 1 rfl
  have cr_2 : w6.cell? ⟨w.heap.size + 1, 2, none⟩ = some (.float .f32 0) := Blr.at 2 rfl
  exact bodyPost_ret (v := .tuple #[.agg #[.int .i64 0, .int .i64 0, .float .f32 0], .int .i64 1]) (by simp [results, Tryz.results20, go_sem, cr_0, cr_1, cr_2]) rfl ⟨_, _, rfl, rfl, rfl, hs⟩
set_option maxRecDepth 100000 in
set_option maxHeartbeats 4000000 in
theorem r7_Follow_ok (ao : Option Addr) (N cap : Nat) (f t a b : Int) (lv lw : Nat) (n pe : Int) (q : Rat) (w : World) (hN : N ≤ 256) (hn0 : 0 ≤ n) (hn1 : n < N) (hpe : pe = 0) (h0 : ¬ a < -256) (h1 : ¬ 256 < a) (h2 : ¬ b < -256) (h3 : ¬ 256 < b) (hg : gateE (n + a) (n + b) N lw = 0)
    (hp : ∀ w' : World, Below w.heap.size w w' → Calls Tryz.prog 15 #[.slice ao N cap, .agg #[.int .i64 f, .int .i64 t, .float .f32 lv]] w' (Ret3 (fun _ v => v = .int .i64 n) (fun w v => RV w v q) (fun _ v => v = .int .i64 pe) w')) :
    Calls Tryz.prog 20 #[.slice ao N cap, .agg #[.int .i64 f, .int .i64 t, .float .f32 lv], .int .i64 a, .int .i64 b, .float .f32 lw] w (Ret2 (fun _ v => v = .agg #[.int .i64 (n + a), .int .i64 (n + b), .float .f32 lw]) (fun _ v => v = .int .i64 0) w) := by
  have hs := Below.refl w.heap.size w
  have HP := Lib.hid hp
  subst hpe
  have d0 : (a < -256) = False := eq_false (by omega)
  have d1 : (256 < a) = False := eq_false (by omega)
  have d2 : (b < -256) = False := eq_false (by omega)
  have d3 : (256 < b) = False := eq_false (by omega)
  have wa : IntKind.i64.wrap (n + a) = n + a := IntWalk.i64_in _ (by omega)
  have wb : IntKind.i64.wrap (n + b) = n + b := IntWalk.i64_in _ (by omega)
  have HC := Lib.hid (fun w => hg ▸ r7_gate (n + a) (n + b) (N : Int) lw w)
  clear hg
  clear hp
  go_enter Tryz.func20, Tryz.ntmps20
  go_wp2_with fail
  refine Calls.abs ?_
  intro w1 hW
  have hsz := hs.size
  have hbw : Below w.heap.size w w1 := by rw [hW]; exact (Below.alloc (Below.alloc (Below.refl w.heap.size w) (by first | exact hs.size | (have := hs.size; simp; done) | (have := hs.size; simp; omega)) _) (by first | exact hs.size | (have := hs.size; simp; done) | (have := hs.size; simp; omega)) _)
  have hs1 : Below w.heap.size w w1 := hs.trans hbw
  have hk : KeepD w w1 := by rw [hW]; exact (((KeepD.refl _).alloc _).alloc _)
  have Bl1g : Bx w1 (w.heap.size) 52 #[.int .i64 f, .int .i64 t, .float .f32 lv] := by rw [hW]; exact ((Bx.new' _ _ _ _ (by first | rfl | (simp; done))).alloc _)
  have Bl1r : Bx w1 (w.heap.size + 1) 52 #[.int .i64 0, .int .i64 0, .float .f32 0] := by rw [hW]; exact (Bx.new' _ _ _ _ (by first | rfl | (simp; done)))
  replace hs := hs1
  clear hs1
  have Blg := Bl1g
  clear Bl1g
  have Blr := Bl1r
  clear Bl1r
  clear hW hk hsz hbw
  have hz_w1 : w.heap.size + 1 < w1.heap.size := Blr.lt
  refine (HP.out _ hs).mono ?_
  rintro e w2 ⟨_, _, _, rfl, rfl, hq, rfl, hb⟩
  obtain ⟨shq, ahq, nhq, chq, Ahq, Nhq, Chq, rfl⟩ := hq.shape
  replace hs := bStep hs hb
  replace Blg := Blg.mono hb
  replace Blr := Blr.mono hb
  clear hb
  go_upto_region 2 with fail
  have ngx0 : w.heap.size + 1 < w2.heap.size := Blr.lt
  refine Code.abs ?_
  intro w3 hW
  have hsz := hs.size
  have lg := Blg.lt
  have lr := Blr.lt
  have hbw : Below w.heap.size w2 w3 := by rw [hW]; exact (Below.alloc (Below.refl w.heap.size w2) (by first | exact hs.size | (have := hs.size; simp; done) | (have := hs.size; simp; omega)) _)
  have hs1 : Below w.heap.size w w3 := hs.trans hbw
  have hk : KeepD w2 w3 := by rw [hW]; exact ((KeepD.refl _).alloc _)
  have Bl1g : Bx w3 (w.heap.size) 52 #[.int .i64 f, .int .i64 t, .float .f32 lv] := by rw [hW]; exact (Blg.alloc _)
  have Bl1r : Bx w3 (w.heap.size + 1) 52 #[.int .i64 0, .int .i64 0, .float .f32 0] := by rw [hW]; exact (Blr.alloc _)
  have Bl1x : Bx w3 (w2.heap.size) 38 #[.bool shq, .slice ahq nhq chq, .slice Ahq Nhq Chq] := by rw [hW]; exact (Bx.new' _ _ _ _ (by first | rfl | (simp; done)))
  replace hs := hs1
  clear hs1
  replace Blg := Bl1g
  clear Bl1g
  replace Blr := Bl1r
  clear Bl1r
  have Blx := Bl1x
  clear Bl1x
  replace hq := hq.keep hk
  clear hW hk hsz hbw lg lr
  have hz_w3 : w2.heap.size < w3.heap.size := Blx.lt
  have ngx : w.heap.size + 1 < w3.heap.size := Blr.lt
  go_wp2_with fail
  refine Calls.abs ?_
  intro w4 hW
  have hsz := hs.size
  have lg := Blg.lt
  have lr := Blr.lt
  have lx := Blx.lt
  have hbw : Below w.heap.size w3 w4 := by rw [hW]; exact (Below.alloc (Below.refl w.heap.size w3) (by first | exact hs.size | (have := hs.size; simp; done) | (have := hs.size; simp; omega)) _)
  have hs1 : Below w.heap.size w w4 := hs.trans hbw
  have hk : KeepD w3 w4 := by rw [hW]; exact ((KeepD.refl _).alloc _)
  have Bl1g : Bx w4 (w.heap.size) 52 #[.int .i64 f, .int .i64 t, .float .f32 lv] := by rw [hW]; exact (Blg.alloc _)
  have Bl1r : Bx w4 (w.heap.size + 1) 52 #[.int .i64 0, .int .i64 0, .float .f32 0] := by rw [hW]; exact (Blr.alloc _)
  have Bl1x : Bx w4 (w2.heap.size) 38 #[.bool shq, .slice ahq nhq chq, .slice Ahq Nhq Chq] := by rw [hW]; exact (Blx.alloc _)
  have Bl1h : Bx w4 (w3.heap.size) 52 #[.int .i64 (n + a), .int .i64 (n + b), .float .f32 lw] := by rw [hW]; exact (Bx.new' _ _ _ _ (by first | rfl | (simp; done)))
  replace hs := hs1
  clear hs1
  replace Blg := Bl1g
  clear Bl1g
  replace Blr := Bl1r
  clear Bl1r
  replace Blx := Bl1x
  clear Bl1x
  have Blh := Bl1h
  clear Bl1h
  replace hq := hq.keep hk
  clear hW hk hsz hbw lg lr lx
  have hz_w4 : w3.heap.size < w4.heap.size := Blh.lt
  refine (HC.out _).mono ?_
  rintro e w5 ⟨rfl, hb⟩
  replace hs := bStep hs hb
  replace Blg := Blg.mono hb
  replace Blr := Blr.mono hb
  replace Blx := Blx.mono hb
  replace Blh := Blh.mono hb
  replace hq := hq.mono hb
  clear hb
  have ch_0 : w5.cell? ⟨w3.heap.size, 0, none⟩ = some (.int .i64 (n + a)) := Blh.at 0 rfl
  have ch_1 : w5.cell? ⟨w3.heap.size, 1, none⟩ = some (.int .i64 (n + b)) := Blh.at 1 rfl
  have ch_2 : w5.cell? ⟨w3.heap.size, 2, none⟩ = some (.float .f32 lw) := Blh.at 2 rfl
  have cr_0 : w5.cell? ⟨w.heap.size + 1, 0, none⟩ = some (.int .i64 0) := Blr.at 0 rfl
  have cr_1 : w5.cell? ⟨w.heap.size + 1, 1, none⟩ = some (.int .i64 0) := Blr.at 1 rfl
  have cr_2 : w5.cell? ⟨w.heap.size + 1, 2, none⟩ = some (.float .f32 0) := Blr.at 2 rfl
  have fr := Blr.free
  have Lr : w.heap.size + 1 < w5.heap.size := Blr.lt
  go_wp2
  refine bodyPost.abs ?_
  intro w6 hW
  have hsz := hs.size
  have lg := Blg.lt
  have lr := Blr.lt
  have lx := Blx.lt
  have lh := Blh.lt
  have hbw : Below w.heap.size w5 w6 := by rw [hW]; exact (Below.setCell (Below.setCell (Below.setCell (Below.refl w.heap.size w5) (by first | exact Nat.le_refl _ | omega | (have := hs.size; simp; done) | (have := hs.size; simp; omega)) _) (by first | exact Nat.le_refl _ | omega | (have := hs.size; simp; done) | (have := hs.size; simp; omega)) _) (by first | exact Nat.le_refl _ | omega | (have := hs.size; simp; done) | (have := hs.size; simp; omega)) _)
  have hs1 : Below w.heap.size w w6 := hs.trans hbw
  have hk : KeepD w5 w6 := by rw [hW]; exact (KeepD.set (KeepD.set (KeepD.set (KeepD.refl _) Blr.ty (by decide) _ _) (TyB.store Blr.ty _ _) (by decide) _ _) (TyB.store (TyB.store Blr.ty _ _) _ _) (by decide) _ _)
  have Bl1g : Bx w6 (w.heap.size) 52 #[.int .i64 f, .int .i64 t, .float .f32 lv] := by rw [hW]; exact (Bx.far (Bx.far (Bx.far Blg (by first | omega | (simp; done) | (simp; omega)) _) (by first | omega | (simp; done) | (simp; omega)) _) (by first | omega | (simp; done) | (simp; omega)) _)
  have Bl1r : Bx w6 (w.heap.size + 1) 52 #[.int .i64 (n + a), .int .i64 (n + b), .float .f32 lw] := by rw [hW]; exact (Bx.set (Bx.set (Bx.set Blr 0 _ rfl) 1 _ rfl) 2 _ rfl)
  have Bl1x : Bx w6 (w2.heap.size) 38 #[.bool shq, .slice ahq nhq chq, .slice Ahq Nhq Chq] := by rw [hW]; exact (Bx.far (Bx.far (Bx.far Blx (by first | omega | (simp; done) | (simp; omega)) _) (by first | omega | (simp; done) | (simp; omega)) _) (by first | omega | (simp; done) | (simp; omega)) _)
  have Bl1h : Bx w6 (w3.heap.size) 52 #[.int .i64 (n + a), .int .i64 (n + b), .float .f32 lw] := by rw [hW]; exact (Bx.far (Bx.far (Bx.far Blh (by first | omega | (simp; done) | (simp; omega)) _) (by first | omega | (simp; done) | (simp; omega)) _) (by first | omega | (simp; done) | (simp; omega)) _)
  replace hs := hs1
  clear hs1
  replace Blg := Bl1g
  clear Bl1g
  replace Blr := Bl1r
  clear Bl1r
  replace Blx := Bl1x
  clear Bl1x
  replace Blh := Bl1h
  clear Bl1h
  clear hW hk hsz hbw lg lr lx lh
  have cr_0 : w6.cell? ⟨w.heap.size + 1, 0, none⟩ = some (.int .i64 (n + a)) := Blr.at 0 rfl
  have cr_1 : w6.cell? ⟨w.heap.size + 1, 1, none⟩ = some (.int .i64 (n + b)) := Blr.at 1 rfl
  have cr_2 : w6.cell? ⟨w.heap.size + 1, 2, none⟩ = some (.float .f32 lw) := Blr.at 2 rfl
  exact bodyPost_ret (v := .tuple #[.agg #[.int .i64 (n + a), .int .i64 (n + b), .float .f32 lw], .int .i64 0]) (by simp [results, Tryz.results20, go_sem, cr_0, cr_1, cr_2]) rfl ⟨_, _, rfl, rfl, rfl, hs⟩
theorem gateE_one {f t n : Int} {lv : Nat} (h : f < 0 ∨ t ≤ f ∨ n < t) : gateE f t n lv = 1 := by
  unfold gateE
  by_cases h1 : f < 0
  · rw [if_pos h1]
  · rw [if_neg h1]
    by_cases h2 : t ≤ f
    · rw [if_pos h2]
    · rw [if_neg h2, if_pos (by omega)]
/-- Behind the peak, both sides say the same. -/
theorem follow_eq {ys : List Nat} {f t a b : Int} {lv lw : Nat} (he : peakE ys f t lv = 0) :
    followE ys f t a b lv lw = if a < -256 then 1 else if 256 < a then 1 else if b < -256 then 1 else if 256 < b then 1 else gateE (peakN ys f t lv + a) (peakN ys f t lv + b) ys.length lw := by
  obtain ⟨ht, -, -⟩ := peak_zero he
  obtain ⟨hN, -⟩ := trace_zero ht
  obtain ⟨n0, n1⟩ := peakN_bd he
  unfold followE
  rw [if_neg (by rw [he]; decide)]
  generalize peakN ys f t lv = n at *
  by_cases h1 : a < -n
  · rw [if_pos h1, gateE_one (.inl (by omega))]
    repeat' split
    all_goals rfl
  · rw [if_neg h1]
    by_cases h2 : (ys.length : Int) - n < b
    · rw [if_pos h2, gateE_one (.inr (.inr (by omega)))]
      repeat' split
      all_goals rfl
    · rw [if_neg h2]
      by_cases h3 : b ≤ a
      · rw [if_pos h3, gateE_one (.inr (.inl (by omega)))]
        repeat' split
        all_goals rfl
      · rw [if_neg h3, if_neg (by omega), if_neg (by omega), if_neg (by omega), if_neg (by omega)]
theorem r7_Follow_calls (v : Value) (ys : List Nat) (f t a b : Int) (lv lw : Nat) (w : World) (hl : RowsI 1 F32 w v (ys.map fun x => (x, flQ (cvF x)))) :
    Calls Tryz.prog 20 #[v, .agg #[.int .i64 f, .int .i64 t, .float .f32 lv], .int .i64 a, .int .i64 b, .float .f32 lw] w (Ret2 (fun _ v => v = .agg #[.int .i64 (followG ys f t a b lv lw).1, .int .i64 (followG ys f t a b lv lw).2.1, .float .f32 (followG ys f t a b lv lw).2.2]) (fun _ v => v = .int .i64 (followE ys f t a b lv lw)) w) := by
  have hp := fun (w' : World) (hb : Below w.heap.size w w') => r7_Peak_calls v ys f t lv w' (hl.mono F32.kept hb)
  obtain ⟨ao, cap, rfl, hc1, hc2, hc3⟩ := hl.slice
  rw [List.length_map] at hp ⊢
  by_cases he : peakE ys f t lv = 0
  · obtain ⟨ht, -, -⟩ := peak_zero he
    obtain ⟨hN, -⟩ := trace_zero ht
    obtain ⟨n0, n1⟩ := peakN_bd he
    have eE := follow_eq (a := a) (b := b) (lw := lw) he
    unfold followG
    by_cases h0 : a < -256
    · rw [if_pos h0] at eE
      rw [eE]
      exact r7_Follow_f0 ao ys.length cap f t a b lv lw _ _ _ w hN n0 n1 he h0 hp
    · rw [if_neg h0] at eE
      by_cases h1 : 256 < a
      · rw [if_pos h1] at eE
        rw [eE]
        exact r7_Follow_f1 ao ys.length cap f t a b lv lw _ _ _ w hN n0 n1 he h0 h1 hp
      · rw [if_neg h1] at eE
        by_cases h2 : b < -256
        · rw [if_pos h2] at eE
          rw [eE]
          exact r7_Follow_f2 ao ys.length cap f t a b lv lw _ _ _ w hN n0 n1 he h0 h1 h2 hp
        · rw [if_neg h2] at eE
          by_cases h3 : 256 < b
          · rw [if_pos h3] at eE
            rw [eE]
            exact r7_Follow_f3 ao ys.length cap f t a b lv lw _ _ _ w hN n0 n1 he h0 h1 h2 h3 hp
          · rw [if_neg h3] at eE
            rw [eE]
            rcases gateE_or (peakN ys f t lv + a) (peakN ys f t lv + b) ys.length lw with hg | hg
            · rw [hg]
              exact r7_Follow_ok ao ys.length cap f t a b lv lw _ _ _ w hN n0 n1 he h0 h1 h2 h3 hg hp
            · rw [hg]
              exact r7_Follow_e5 ao ys.length cap f t a b lv lw _ _ _ w hN n0 n1 he h0 h1 h2 h3 hg hp
  · have eE : followE ys f t a b lv lw = peakE ys f t lv := by unfold followE; rw [if_pos he]
    unfold followG
    rw [eE, if_pos he]
    exact r7_Follow_e1 ao ys.length cap f t a b lv lw _ _ _ w he hp
end Go.Proofs.YtkfekkhhfpkfaaaGreat
