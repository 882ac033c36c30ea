/-
  Law 07: ScanPeaks, over awake.
-/
import Derived.Test.YtkfekkhhfpkfaaaGreatRefFollow
import Derived.Test.YtkfekkhhfpkfaaaGreatLawE
set_option linter.unusedSimpArgs false
set_option linter.unusedVariables false
namespace Go.Proofs.YtkfekkhhfpkfaaaGreat
open Go.RowKit Dg
attribute [local go_sem ↓] Go.wp_at_zero Go.wp_at_succ

attribute [local go_sem] run_store_float
theorem bits32_find : Extern.find Tryz.f21 = some Extern.MathFloatBits.float32bits := by kernel_rfl
theorem run_bits32 (b : Nat) (w : World) : (callFunc 21 #[.float .f32 b]).run Tryz.prog w = .ok (.value (.int .u32 b)) w := by
  rw [run_callFunc_extern Tryz.func21 (by kernel_rfl) (by kernel_rfl) (by kernel_rfl) bits32_find]
  rfl
theorem float_finY {ys : List Nat} {i : Nat} (hno : ∀ i, i < ys.length → f32E (nthN ys i) ≠ 255) (hi : i < ys.length) (w : World) : Calls Tryz.prog 16 #[.float .f64 (cvF (nthN ys i))] w (RetPE w (atQ (yQ ys) i) 0) := by
  rw [atQ_y hi]
  exact float_fin (cv_fin (hno i hi)).1 (cv_fin (hno i hi)).2 w
theorem pkA_max (L : List Rat) (f : Nat) : ∀ k i, f ≤ i → i < f + k → ¬ absQ (atQ L (pkA L f k)) < absQ (atQ L i)
  | 0, i, h1, h2 => by omega
  | k + 1, i, h1, h2 => by
    have ih := pkA_max L f k
    rw [pkA_succ]
    by_cases hi : i = f + k
    · subst hi
      split
      · exact fun h => Rat.lt_irrefl h
      · assumption
    · have h3 := ih i h1 (by omega)
      split
      · rename_i h4
        exact fun h => h3 (by grind)
      · exact h3
set_option maxRecDepth 100000 in
set_option maxHeartbeats 16000000 in
theorem l7_ScanPeaks_long (hAw : ∀ w : World, Calls Tryz.prog 8 #[] w (RetV w (.bool true))) (ao : Option Addr) (cap : Nat) (ys : List Nat) (f t a b : Int) (lv lw : Nat) (w : World) (h300 : 300 < ys.length) :
    Calls Tryz.prog 4 #[.slice ao ys.length cap, .agg #[.int .i64 f, .int .i64 t, .float .f32 lv], .int .i64 a, .int .i64 b, .float .f32 lw] w (RetV w (.bool true)) := by
  have hs := Below.refl w.heap.size w
  have hb32 := run_bits32
  have HAW := Lib.hid hAw
  clear hAw
  go_enter Tryz.func4, Tryz.ntmps4
  have q1 : 300 < ys.length := (by omega)
  have q1d : ((300 : Int) < (ys.length : Int)) = True := eq_true (by omega)
  go_wp2_with fail
  refine Calls.abs ?_
  intro w1 hW
  have hG : Gr [] w w1 := by rw [hW]; exact (Gr.refl _ _).alloc
  have hbw : Below w.heap.size w w1 := hG.below0 hs.size
  have hk : KeepD w w1 := hG.keep True.intro
  have sz_w1 : w.heap.size ≤ w.heap.size := hs.size
  have Blg : Bx w1 (w.heap.size) 47 #[.int .i64 f, .int .i64 t, .float .f32 lv] := by rw [hW]; exact (Bx.new0 _ _ _)
  replace hs := hs.trans hbw
  clear hW hG hk hbw
  have hz_w1 : w.heap.size < w1.heap.size := Blg.lt
  with_reducible refine (HAW.out _).mono ?_
  rintro e w2 ⟨rfl, hb⟩
  replace hs := bStep hs hb
  replace Blg := Blg.mono hb
  clear hb
  go_wp2
  go_ret
  exact ⟨rfl, hs⟩

set_option maxRecDepth 100000 in
set_option maxHeartbeats 16000000 in
theorem l7_ScanPeaks_err (hAw : ∀ w : World, Calls Tryz.prog 8 #[] w (RetV w (.bool true))) (ao : Option Addr) (cap : Nat) (ys : List Nat) (f t a b : Int) (lv lw : Nat) (pn pe ga gb fe : Int) (pv : Rat) (gl : Nat) (w : World) (h300 : ys.length ≤ 300) (hne : ¬ pe = 0) (sp : SzQ 40 pv)
    (hP : ∀ w' : World, Below w.heap.size w w' → Calls Tryz.prog 14 #[.slice ao ys.length cap, .agg #[.int .i64 f, .int .i64 t, .float .f32 lv]] w' (Ret3 (fun _ v => v = .int .i64 pn) (fun w v => PV w v pv) (fun _ v => v = .int .i64 pe) w'))
    (hQ : ∀ w' : World, Below w.heap.size w w' → Calls Tryz.prog 15 #[.slice ao ys.length cap, .agg #[.int .i64 f, .int .i64 t, .float .f32 lv]] w' (Ret3 (fun _ v => v = .int .i64 pn) (fun w v => RV w v pv) (fun _ v => v = .int .i64 pe) w'))
    (hF : ∀ w' : World, Below w.heap.size w w' → Calls Tryz.prog 19 #[.slice ao ys.length cap, .agg #[.int .i64 f, .int .i64 t, .float .f32 lv], .int .i64 a, .int .i64 b, .float .f32 lw] w' (Ret2 (fun _ v => v = .agg #[.int .i64 ga, .int .i64 gb, .float .f32 gl]) (fun _ v => v = .int .i64 fe) w'))
    (hG : ∀ w' : World, Below w.heap.size w w' → Calls Tryz.prog 20 #[.slice ao ys.length cap, .agg #[.int .i64 f, .int .i64 t, .float .f32 lv], .int .i64 a, .int .i64 b, .float .f32 lw] w' (Ret2 (fun _ v => v = .agg #[.int .i64 ga, .int .i64 gb, .float .f32 gl]) (fun _ v => v = .int .i64 fe) w')) :
    Calls Tryz.prog 4 #[.slice ao ys.length cap, .agg #[.int .i64 f, .int .i64 t, .float .f32 lv], .int .i64 a, .int .i64 b, .float .f32 lw] w (RetV w (.bool true)) := by
  have hs := Below.refl w.heap.size w
  have hb32 := run_bits32
  have HAW := Lib.hid hAw
  have HPS := Lib.hid sp
  have HP := Lib.hid hP
  have HQ := Lib.hid hQ
  have HF := Lib.hid hF
  have HG := Lib.hid hG
  have HNE := Lib.hid hne
  clear hAw sp hP hQ hF hG hne
  go_enter Tryz.func4, Tryz.ntmps4
  have q1 : ¬ (300 < ys.length) := (by omega)
  have q1d : ((300 : Int) < (ys.length : Int)) = False := eq_false (by omega)
  go_wp2_with fail
  refine Calls.abs ?_
  intro w1 hW
  have hG : Gr [] w w1 := by rw [hW]; exact (Gr.refl _ _).alloc
  have hbw : Below w.heap.size w w1 := hG.below0 hs.size
  have hk : KeepD w w1 := hG.keep True.intro
  have sz_w1 : w.heap.size ≤ w.heap.size := hs.size
  have Blg : Bx w1 (w.heap.size) 47 #[.int .i64 f, .int .i64 t, .float .f32 lv] := by rw [hW]; exact (Bx.new0 _ _ _)
  replace hs := hs.trans hbw
  clear hW hG hk hbw
  have hz_w1 : w.heap.size < w1.heap.size := Blg.lt
  with_reducible refine (HP.out _ hs).mono ?_
  rintro e w2 ⟨_, _, _, rfl, rfl, h2, rfl, hb⟩
  obtain ⟨sh2, ah2, nh2, ch2, Ah2, Nh2, Ch2, rfl⟩ := h2.shape
  replace hs := bStep hs hb
  replace Blg := Blg.mono hb
  clear hb
  have cg_0 : w2.cell? ⟨w.heap.size, 0, none⟩ = some (.int .i64 f) := Blg.at 0 rfl
  have cg_1 : w2.cell? ⟨w.heap.size, 1, none⟩ = some (.int .i64 t) := Blg.at 1 rfl
  have cg_2 : w2.cell? ⟨w.heap.size, 2, none⟩ = some (.float .f32 lv) := Blg.at 2 rfl
  have Lg : w.heap.size < w2.heap.size := Blg.lt
  go_wp2_with fail
  clear cg_0 cg_1 cg_2 Lg
  refine Calls.abs ?_
  intro w3 hW
  have hG : Gr [] w2 w3 := by rw [hW]; exact (Gr.refl _ _).alloc
  have hbw : Below w.heap.size w2 w3 := hG.below0 hs.size
  have hk : KeepD w2 w3 := hG.keep True.intro
  have sz_w3 : w.heap.size ≤ w2.heap.size := hs.size
  have ng_w3 : w.heap.size < w2.heap.size := Blg.lt
  have Blx : Bx w3 (w2.heap.size) 32 #[.bool sh2, .slice ah2 nh2 ch2, .slice Ah2 Nh2 Ch2] := by rw [hW]; exact (Bx.new0 _ _ _)
  replace hs := hs.trans hbw
  replace Blg := hG.bx Blg notMem0
  replace h2 := h2.keep hk
  clear hW hG hk hbw
  have hz_w3 : w2.heap.size < w3.heap.size := Blx.lt
  with_reducible refine (HQ.out _ hs).mono ?_
  rintro e w4 ⟨_, _, _, rfl, rfl, h3, rfl, hb⟩
  obtain ⟨sh3, ah3, nh3, ch3, Ah3, Nh3, Ch3, rfl⟩ := h3.shape
  replace hs := bStep hs hb
  replace Blg := Blg.mono hb
  replace Blx := Blx.mono hb
  replace h2 := h2.mono hb
  clear hb
  have q4b : (pe == pe) = true := beq_self_eq_true _
  have q4n : (pe != pe) = false := bne_self_eq_false _
  have q5b : (pn == pn) = true := beq_self_eq_true _
  have q5n : (pn != pn) = false := bne_self_eq_false _
  have cx_0 : w4.cell? ⟨w2.heap.size, 0, none⟩ = some (.bool sh2) := Blx.at 0 rfl
  have cx_1 : w4.cell? ⟨w2.heap.size, 1, none⟩ = some (.slice ah2 nh2 ch2) := Blx.at 1 rfl
  have cx_2 : w4.cell? ⟨w2.heap.size, 2, none⟩ = some (.slice Ah2 Nh2 Ch2) := Blx.at 2 rfl
  have Lx : w2.heap.size < w4.heap.size := Blx.lt
  go_wp2_with fail
  clear cx_0 cx_1 cx_2 Lx
  refine Calls.abs ?_
  intro w5 hW
  have hG : Gr [] w4 w5 := by rw [hW]; exact (Gr.refl _ _).alloc
  have hbw : Below w.heap.size w4 w5 := hG.below0 hs.size
  have hk : KeepD w4 w5 := hG.keep True.intro
  have sz_w5 : w.heap.size ≤ w4.heap.size := hs.size
  have ng_w5 : w.heap.size < w4.heap.size := Blg.lt
  have nx_w5 : w2.heap.size < w4.heap.size := Blx.lt
  have Blz : Bx w5 (w4.heap.size) 38 #[.bool sh3, .slice ah3 nh3 ch3, .slice Ah3 Nh3 Ch3] := by rw [hW]; exact (Bx.new0 _ _ _)
  replace hs := hs.trans hbw
  replace Blg := hG.bx Blg notMem0
  replace Blx := hG.bx Blx notMem0
  replace h2 := h2.keep hk
  replace h3 := h3.keep hk
  clear hW hG hk hbw
  have hz_w5 : w4.heap.size < w5.heap.size := Blz.lt
  with_reducible refine (l7_is _ _ _ _ h2 h3 (SzQ.fit HPS.out)).mono ?_
  rintro e w6 ⟨rfl, hb⟩
  replace hs := bStep hs hb
  replace Blg := Blg.mono hb
  replace Blx := Blx.mono hb
  replace Blz := Blz.mono hb
  replace h2 := h2.mono hb
  replace h3 := h3.mono hb
  clear hb
  have q6 : ¬ (pe = 0) := HNE.out
  have q6b : (pe == 0) = false := beq_eq_false_iff_ne.2 (by omega)
  have q6n : (pe != 0) = true := bne_iff_ne.2 (by omega)
  have q6H := Lib.hid q6
  clear q6
  have cg_0 : w6.cell? ⟨w.heap.size, 0, none⟩ = some (.int .i64 f) := Blg.at 0 rfl
  have cg_1 : w6.cell? ⟨w.heap.size, 1, none⟩ = some (.int .i64 t) := Blg.at 1 rfl
  have cg_2 : w6.cell? ⟨w.heap.size, 2, none⟩ = some (.float .f32 lv) := Blg.at 2 rfl
  have Lg : w.heap.size < w6.heap.size := Blg.lt
  go_wp2_with fail
  clear cg_0 cg_1 cg_2 Lg
  with_reducible refine (HF.out _ hs).mono ?_
  rintro e w7 ⟨_, _, rfl, rfl, rfl, hb⟩
  replace hs := bStep hs hb
  replace Blg := Blg.mono hb
  replace Blx := Blx.mono hb
  replace Blz := Blz.mono hb
  replace h2 := h2.mono hb
  replace h3 := h3.mono hb
  clear hb
  have cg_0 : w7.cell? ⟨w.heap.size, 0, none⟩ = some (.int .i64 f) := Blg.at 0 rfl
  have cg_1 : w7.cell? ⟨w.heap.size, 1, none⟩ = some (.int .i64 t) := Blg.at 1 rfl
  have cg_2 : w7.cell? ⟨w.heap.size, 2, none⟩ = some (.float .f32 lv) := Blg.at 2 rfl
  have Lg : w.heap.size < w7.heap.size := Blg.lt
  go_wp2_with fail
  clear cg_0 cg_1 cg_2 Lg
  refine Calls.abs ?_
  intro w8 hW
  have hG : Gr [] w7 w8 := by rw [hW]; exact (Gr.refl _ _).alloc
  have hbw : Below w.heap.size w7 w8 := hG.below0 hs.size
  have hk : KeepD w7 w8 := hG.keep True.intro
  have sz_w8 : w.heap.size ≤ w7.heap.size := hs.size
  have ng_w8 : w.heap.size < w7.heap.size := Blg.lt
  have nx_w8 : w2.heap.size < w7.heap.size := Blx.lt
  have nz_w8 : w4.heap.size < w7.heap.size := Blz.lt
  have Bla : Bx w8 (w7.heap.size) 47 #[.int .i64 ga, .int .i64 gb, .float .f32 gl] := by rw [hW]; exact (Bx.new0 _ _ _)
  replace hs := hs.trans hbw
  replace Blg := hG.bx Blg notMem0
  replace Blx := hG.bx Blx notMem0
  replace Blz := hG.bx Blz notMem0
  replace h2 := h2.keep hk
  replace h3 := h3.keep hk
  clear hW hG hk hbw
  have hz_w8 : w7.heap.size < w8.heap.size := Bla.lt
  with_reducible refine (HG.out _ hs).mono ?_
  rintro e w9 ⟨_, _, rfl, rfl, rfl, hb⟩
  replace hs := bStep hs hb
  replace Blg := Blg.mono hb
  replace Blx := Blx.mono hb
  replace Blz := Blz.mono hb
  replace Bla := Bla.mono hb
  replace h2 := h2.mono hb
  replace h3 := h3.mono hb
  clear hb
  go_upto_region 16 with fail
  refine Code.abs ?_
  intro w10 hW
  have hG : Gr [] w9 w10 := by rw [hW]; exact (Gr.refl _ _).alloc
  have hbw : Below w.heap.size w9 w10 := hG.below0 hs.size
  have hk : KeepD w9 w10 := hG.keep True.intro
  have sz_w10 : w.heap.size ≤ w9.heap.size := hs.size
  have ng_w10 : w.heap.size < w9.heap.size := Blg.lt
  have nx_w10 : w2.heap.size < w9.heap.size := Blx.lt
  have nz_w10 : w4.heap.size < w9.heap.size := Blz.lt
  have na_w10 : w7.heap.size < w9.heap.size := Bla.lt
  have Blb : Bx w10 (w9.heap.size) 52 #[.int .i64 ga, .int .i64 gb, .float .f32 gl] := by rw [hW]; exact (Bx.new0 _ _ _)
  replace hs := hs.trans hbw
  replace Blg := hG.bx Blg notMem0
  replace Blx := hG.bx Blx notMem0
  replace Blz := hG.bx Blz notMem0
  replace Bla := hG.bx Bla notMem0
  replace h2 := h2.keep hk
  replace h3 := h3.keep hk
  clear hW hG hk hbw
  have hz_w10 : w9.heap.size < w10.heap.size := Blb.lt
  have q7b : (fe == fe) = true := beq_self_eq_true _
  have q7n : (fe != fe) = false := bne_self_eq_false _
  have q8b : (ga == ga) = true := beq_self_eq_true _
  have q8n : (ga != ga) = false := bne_self_eq_false _
  have q9b : (gb == gb) = true := beq_self_eq_true _
  have q9n : (gb != gb) = false := bne_self_eq_false _
  have q10b : ((gl : Int) == (gl : Int)) = true := beq_self_eq_true _
  have q10n : ((gl : Int) != (gl : Int)) = false := bne_self_eq_false _
  refine U_region (S := fun w' => w'.cell? ⟨w7.heap.size, 0, none⟩ = some (.int .i64 ga) ∧ w'.cell? ⟨w7.heap.size, 1, none⟩ = some (.int .i64 gb) ∧ w'.cell? ⟨w7.heap.size, 2, none⟩ = some (.float .f32 gl) ∧ w'.cell? ⟨w9.heap.size, 0, none⟩ = some (.int .i64 ga) ∧ w'.cell? ⟨w9.heap.size, 1, none⟩ = some (.int .i64 gb) ∧ w'.cell? ⟨w9.heap.size, 2, none⟩ = some (.float .f32 gl)) (by kernel_rfl) 30 ?_
  refine AnyU.abs ?_
  intro w11 hW
  have hb : Below w10.heap.size w10 w11 := by rw [hW]; exact bDrew _
  replace hs := bStep hs hb
  replace Blg := Blg.mono hb
  replace Blx := Blx.mono hb
  replace Blz := Blz.mono hb
  replace Bla := Bla.mono hb
  replace Blb := Blb.mono hb
  replace h2 := h2.mono hb
  replace h3 := h3.mono hb
  clear hb hW
  have ca_0 : w11.cell? ⟨w7.heap.size, 0, none⟩ = some (.int .i64 ga) := Bla.at 0 rfl
  have ca_1 : w11.cell? ⟨w7.heap.size, 1, none⟩ = some (.int .i64 gb) := Bla.at 1 rfl
  have ca_2 : w11.cell? ⟨w7.heap.size, 2, none⟩ = some (.float .f32 gl) := Bla.at 2 rfl
  have cb_0 : w11.cell? ⟨w9.heap.size, 0, none⟩ = some (.int .i64 ga) := Blb.at 0 rfl
  have cb_1 : w11.cell? ⟨w9.heap.size, 1, none⟩ = some (.int .i64 gb) := Blb.at 1 rfl
  have cb_2 : w11.cell? ⟨w9.heap.size, 2, none⟩ = some (.float .f32 gl) := Blb.at 2 rfl
  have hH := (show w11.cell? ⟨w7.heap.size, 0, none⟩ = some (.int .i64 ga) ∧ w11.cell? ⟨w7.heap.size, 1, none⟩ = some (.int .i64 gb) ∧ w11.cell? ⟨w7.heap.size, 2, none⟩ = some (.float .f32 gl) ∧ w11.cell? ⟨w9.heap.size, 0, none⟩ = some (.int .i64 ga) ∧ w11.cell? ⟨w9.heap.size, 1, none⟩ = some (.int .i64 gb) ∧ w11.cell? ⟨w9.heap.size, 2, none⟩ = some (.float .f32 gl) from ⟨ca_0, ca_1, ca_2, cb_0, cb_1, cb_2⟩)
  refine U_tk 0 100 ?_ ?_ hH ?_
  rotate_left
  · (intro w hSw; (try dsimp only at hSw); go_simp; try with_reducible rfl)
  simp only [LY]
  refine U_tk 1 101 ?_ ?_ hH ?_
  rotate_left
  · (intro w hSw; (try dsimp only at hSw); go_simp; try with_reducible rfl)
  simp only [LY]
  refine U_tk 2 102 ?_ ?_ hH ?_
  rotate_left
  · (intro w hSw; (try dsimp only at hSw); go_simp; try with_reducible rfl)
  simp only [LY]
  try simp only [Bool.not_true, Bool.not_false, q1d, q4b, q4n, q5b, q5n, q6b, q6n, q7b, q7n, q8b, q8n, q9b, q9n, q10b, q10n]
  refine U_tk 3 103 ?_ ?_ hH ?_
  rotate_left
  · (intro w hSw; (try dsimp only at hSw); go_simp; try with_reducible rfl)
  simp only [LY]
  refine U_tk 4 104 ?_ ?_ hH ?_
  rotate_left
  · (intro w hSw; (try dsimp only at hSw); go_simp; try with_reducible rfl)
  simp only [LY]
  refine U_tk 5 105 ?_ ?_ hH ?_
  rotate_left
  · (intro w hSw; (try dsimp only at hSw); go_simp; try with_reducible rfl)
  simp only [LY]
  refine U_tk 6 106 ?_ ?_ hH ?_
  rotate_left
  · (intro w hSw; (try dsimp only at hSw); go_simp; try with_reducible rfl)
  simp only [LY]
  refine U_tk 7 107 ?_ ?_ hH ?_
  rotate_left
  · (intro w hSw; (try dsimp only at hSw); go_simp; try with_reducible rfl)
  simp only [LY]
  refine U_tk 8 108 ?_ ?_ hH ?_
  rotate_left
  · (intro w hSw; (try dsimp only at hSw); go_simp; try with_reducible rfl)
  simp only [LY]
  try simp only [Bool.not_true, Bool.not_false, q1d, q4b, q4n, q5b, q5n, q6b, q6n, q7b, q7n, q8b, q8n, q9b, q9n, q10b, q10n]
  refine U_tk 9 109 ?_ ?_ hH ?_
  rotate_left
  · (intro w hSw; (try dsimp only at hSw); go_simp; try with_reducible rfl)
  simp only [LY]
  refine U_tk 10 110 ?_ ?_ hH ?_
  rotate_left
  · (intro w hSw; (try dsimp only at hSw); go_simp; try with_reducible rfl)
  simp only [LY]
  refine U_tk 11 111 ?_ ?_ hH ?_
  rotate_left
  · (intro w hSw; (try dsimp only at hSw); go_simp; try with_reducible rfl)
  simp only [LY]
  refine U_tk 12 112 ?_ ?_ hH ?_
  rotate_left
  · (intro w hSw; (try dsimp only at hSw); go_simp; try with_reducible rfl)
  simp only [LY]
  refine U_tk 13 113 ?_ ?_ hH ?_
  rotate_left
  · (intro w hSw; (try dsimp only at hSw); go_simp; try with_reducible rfl)
  simp only [LY]
  refine U_tk 14 114 ?_ ?_ hH ?_
  rotate_left
  · (intro w hSw; (try dsimp only at hSw); go_simp; try with_reducible rfl)
  simp only [LY]
  refine U_tk 15 115 ?_ ?_ hH ?_
  rotate_left
  · (intro w hSw; (try dsimp only at hSw); go_simp; try with_reducible rfl)
  simp only [LY]
  try simp only [Bool.not_true, Bool.not_false, q1d, q4b, q4n, q5b, q5n, q6b, q6n, q7b, q7n, q8b, q8n, q9b, q9n, q10b, q10n]
  refine U_tk 16 116 ?_ ?_ hH ?_
  rotate_left
  · (intro w hSw; (try dsimp only at hSw); go_simp; try with_reducible rfl)
  simp only [LY]
  refine U_tk 17 117 ?_ ?_ hH ?_
  rotate_left
  · (intro w hSw; (try dsimp only at hSw); go_simp; try with_reducible rfl)
  simp only [LY]
  refine U_tk 18 118 ?_ ?_ hH ?_
  rotate_left
  · (intro w hSw; (try dsimp only at hSw); go_simp; try with_reducible rfl)
  simp only [LY]
  refine U_tk 19 119 ?_ ?_ hH ?_
  rotate_left
  · (intro w hSw; (try dsimp only at hSw); go_simp; try with_reducible rfl)
  simp only [LY]
  refine U_tk 21 121 ?_ ?_ hH ?_
  rotate_left
  · (intro w hSw; (try dsimp only at hSw); go_simp; try with_reducible rfl)
  simp only [LY]
  refine U_tk 22 122 ?_ ?_ hH ?_
  rotate_left
  · (intro w hSw; (try dsimp only at hSw); go_simp; try with_reducible rfl)
  simp only [LY]
  clear hH
  refine U_one (i := 20) (by kernel_rfl) rfl (fun K hK => ?_)
  go_simp
  try go_wp2_with fail
  refine hK.out _ _ ⟨ca_0, ca_1, ca_2, cb_0, cb_1, cb_2⟩ (fun hH => ?_)
  clear hK K
  try simp only [LY]
  clear hH
  refine U_one (i := 23) (by kernel_rfl) rfl (fun K hK => ?_)
  go_simp
  try go_wp2_with fail
  refine hK.out _ _ ⟨ca_0, ca_1, ca_2, cb_0, cb_1, cb_2⟩ (fun hH => ?_)
  clear hK K
  try simp only [LY]
  refine U_tk 24 124 ?_ ?_ hH ?_
  rotate_left
  · (intro w hSw; (try dsimp only at hSw); go_simp; try with_reducible rfl)
  simp only [LY]
  try simp only [Bool.not_true, Bool.not_false, q1d, q4b, q4n, q5b, q5n, q6b, q6n, q7b, q7n, q8b, q8n, q9b, q9n, q10b, q10n]
  refine U_tk 25 125 ?_ ?_ hH ?_
  rotate_left
  · (intro w hSw; (try dsimp only at hSw); go_simp; try with_reducible rfl)
  simp only [LY]
  refine U_tk 26 126 ?_ ?_ hH ?_
  rotate_left
  · (intro w hSw; (try dsimp only at hSw); go_simp; try with_reducible rfl)
  simp only [LY]
  clear hH
  refine U_one (i := 27) (by kernel_rfl) rfl (fun K hK => ?_)
  go_simp
  (with_reducible refine (HAW.out _).mono ?_)
  rintro e w12 ⟨rfl, hb⟩
  replace hs := bStep hs hb
  replace Blg := Blg.mono hb
  replace Blx := Blx.mono hb
  replace Blz := Blz.mono hb
  replace Bla := Bla.mono hb
  replace Blb := Blb.mono hb
  replace h2 := h2.mono hb
  replace h3 := h3.mono hb
  replace ca_0 := cellK ca_0 hb
  replace ca_1 := cellK ca_1 hb
  replace ca_2 := cellK ca_2 hb
  replace cb_0 := cellK cb_0 hb
  replace cb_1 := cellK cb_1 hb
  replace cb_2 := cellK cb_2 hb
  clear hb
  try go_wp2_with fail
  refine hK.out _ _ ⟨ca_0, ca_1, ca_2, cb_0, cb_1, cb_2⟩ (fun hH => ?_)
  clear hK K
  try simp only [LY]
  refine U_tk 28 128 ?_ ?_ hH ?_
  rotate_left
  · (intro w hSw; (try dsimp only at hSw); go_simp; try with_reducible rfl)
  simp only [LY]
  refine U_tk 29 10 ?_ ?_ hH ?_
  rotate_left
  · (intro w hSw; (try dsimp only at hSw); go_simp; try with_reducible rfl)
  simp only [LY]
  clear hH
  refine U_endN (by kernel_rfl) ?_
  clear ca_0 ca_1 ca_2 cb_0 cb_1 cb_2
  go_wp2
  go_ret
  exact ⟨rfl, hs⟩

set_option maxRecDepth 100000 in
set_option maxHeartbeats 16000000 in
theorem l7_ScanPeaks_ok (hAw : ∀ w : World, Calls Tryz.prog 8 #[] w (RetV w (.bool true))) (bl ol cap : Nat) (ys : List Nat) (f t : Nat) (a b : Int) (lv lw : Nat) (pn ga gb fe : Int) (pv : Rat) (gl : Nat) (w : World) (hl : RowsI 1 F32 w (.slice (some ⟨bl, ol, none⟩) ys.length cap) (ys.map fun x => (x, flQ (cvF x)))) (h300 : ys.length ≤ 300) (hft : f < t) (htn : t ≤ ys.length) (hno : ∀ i, i < ys.length → f32E (nthN ys i) ≠ 255) (hmx : ∀ i, f ≤ i → i < t → ¬ pv < absQ (atQ (yQ ys) i)) (sp : SzQ 40 pv)
    (hP : ∀ w' : World, Below w.heap.size w w' → Calls Tryz.prog 14 #[.slice (some ⟨bl, ol, none⟩) ys.length cap, .agg #[.int .i64 (f : Int), .int .i64 (t : Int), .float .f32 lv]] w' (Ret3 (fun _ v => v = .int .i64 pn) (fun w v => PV w v pv) (fun _ v => v = .int .i64 0) w'))
    (hQ : ∀ w' : World, Below w.heap.size w w' → Calls Tryz.prog 15 #[.slice (some ⟨bl, ol, none⟩) ys.length cap, .agg #[.int .i64 (f : Int), .int .i64 (t : Int), .float .f32 lv]] w' (Ret3 (fun _ v => v = .int .i64 pn) (fun w v => RV w v pv) (fun _ v => v = .int .i64 0) w'))
    (hF : ∀ w' : World, Below w.heap.size w w' → Calls Tryz.prog 19 #[.slice (some ⟨bl, ol, none⟩) ys.length cap, .agg #[.int .i64 (f : Int), .int .i64 (t : Int), .float .f32 lv], .int .i64 a, .int .i64 b, .float .f32 lw] w' (Ret2 (fun _ v => v = .agg #[.int .i64 ga, .int .i64 gb, .float .f32 gl]) (fun _ v => v = .int .i64 fe) w'))
    (hG : ∀ w' : World, Below w.heap.size w w' → Calls Tryz.prog 20 #[.slice (some ⟨bl, ol, none⟩) ys.length cap, .agg #[.int .i64 (f : Int), .int .i64 (t : Int), .float .f32 lv], .int .i64 a, .int .i64 b, .float .f32 lw] w' (Ret2 (fun _ v => v = .agg #[.int .i64 ga, .int .i64 gb, .float .f32 gl]) (fun _ v => v = .int .i64 fe) w')) :
    Calls Tryz.prog 4 #[.slice (some ⟨bl, ol, none⟩) ys.length cap, .agg #[.int .i64 (f : Int), .int .i64 (t : Int), .float .f32 lv], .int .i64 a, .int .i64 b, .float .f32 lw] w (RetV w (.bool true)) := by
  have hs := Below.refl w.heap.size w
  have hb32 := run_bits32
  have HAW := Lib.hid hAw
  have HPS := Lib.hid sp
  have HP := Lib.hid hP
  have HQ := Lib.hid hQ
  have HF := Lib.hid hF
  have HG := Lib.hid hG
  have HL := Lib.hid hl
  have HNO := Lib.hid hno
  have HMX := Lib.hid hmx
  clear hAw sp hP hQ hF hG hl hno hmx
  go_enter Tryz.func4, Tryz.ntmps4
  have q1 : ¬ (300 < ys.length) := (by omega)
  have q1d : ((300 : Int) < (ys.length : Int)) = False := eq_false (by omega)
  go_wp2_with fail
  refine Calls.abs ?_
  intro w1 hW
  have hG : Gr [] w w1 := by rw [hW]; exact (Gr.refl _ _).alloc
  have hbw : Below w.heap.size w w1 := hG.below0 hs.size
  have hk : KeepD w w1 := hG.keep True.intro
  have sz_w1 : w.heap.size ≤ w.heap.size := hs.size
  have Blg : Bx w1 (w.heap.size) 47 #[.int .i64 ((f : Int)), .int .i64 ((t : Int)), .float .f32 lv] := by rw [hW]; exact (Bx.new0 _ _ _)
  replace hs := hs.trans hbw
  clear hW hG hk hbw
  have hz_w1 : w.heap.size < w1.heap.size := Blg.lt
  with_reducible refine (HP.out _ hs).mono ?_
  rintro e w2 ⟨_, _, _, rfl, rfl, h2, rfl, hb⟩
  obtain ⟨sh2, ah2, nh2, ch2, Ah2, Nh2, Ch2, rfl⟩ := h2.shape
  replace hs := bStep hs hb
  replace Blg := Blg.mono hb
  clear hb
  have cg_0 : w2.cell? ⟨w.heap.size, 0, none⟩ = some (.int .i64 ((f : Int))) := Blg.at 0 rfl
  have cg_1 : w2.cell? ⟨w.heap.size, 1, none⟩ = some (.int .i64 ((t : Int))) := Blg.at 1 rfl
  have cg_2 : w2.cell? ⟨w.heap.size, 2, none⟩ = some (.float .f32 lv) := Blg.at 2 rfl
  have Lg : w.heap.size < w2.heap.size := Blg.lt
  go_wp2_with fail
  clear cg_0 cg_1 cg_2 Lg
  refine Calls.abs ?_
  intro w3 hW
  have hG : Gr [] w2 w3 := by rw [hW]; exact (Gr.refl _ _).alloc
  have hbw : Below w.heap.size w2 w3 := hG.below0 hs.size
  have hk : KeepD w2 w3 := hG.keep True.intro
  have sz_w3 : w.heap.size ≤ w2.heap.size := hs.size
  have ng_w3 : w.heap.size < w2.heap.size := Blg.lt
  have Blx : Bx w3 (w2.heap.size) 32 #[.bool sh2, .slice ah2 nh2 ch2, .slice Ah2 Nh2 Ch2] := by rw [hW]; exact (Bx.new0 _ _ _)
  replace hs := hs.trans hbw
  replace Blg := hG.bx Blg notMem0
  replace h2 := h2.keep hk
  clear hW hG hk hbw
  have hz_w3 : w2.heap.size < w3.heap.size := Blx.lt
  with_reducible refine (HQ.out _ hs).mono ?_
  rintro e w4 ⟨_, _, _, rfl, rfl, h3, rfl, hb⟩
  obtain ⟨sh3, ah3, nh3, ch3, Ah3, Nh3, Ch3, rfl⟩ := h3.shape
  replace hs := bStep hs hb
  replace Blg := Blg.mono hb
  replace Blx := Blx.mono hb
  replace h2 := h2.mono hb
  clear hb
  have q4b : (pn == pn) = true := beq_self_eq_true _
  have q4n : (pn != pn) = false := bne_self_eq_false _
  have cx_0 : w4.cell? ⟨w2.heap.size, 0, none⟩ = some (.bool sh2) := Blx.at 0 rfl
  have cx_1 : w4.cell? ⟨w2.heap.size, 1, none⟩ = some (.slice ah2 nh2 ch2) := Blx.at 1 rfl
  have cx_2 : w4.cell? ⟨w2.heap.size, 2, none⟩ = some (.slice Ah2 Nh2 Ch2) := Blx.at 2 rfl
  have Lx : w2.heap.size < w4.heap.size := Blx.lt
  go_wp2_with fail
  clear cx_0 cx_1 cx_2 Lx
  refine Calls.abs ?_
  intro w5 hW
  have hG : Gr [] w4 w5 := by rw [hW]; exact (Gr.refl _ _).alloc
  have hbw : Below w.heap.size w4 w5 := hG.below0 hs.size
  have hk : KeepD w4 w5 := hG.keep True.intro
  have sz_w5 : w.heap.size ≤ w4.heap.size := hs.size
  have ng_w5 : w.heap.size < w4.heap.size := Blg.lt
  have nx_w5 : w2.heap.size < w4.heap.size := Blx.lt
  have Blz : Bx w5 (w4.heap.size) 38 #[.bool sh3, .slice ah3 nh3 ch3, .slice Ah3 Nh3 Ch3] := by rw [hW]; exact (Bx.new0 _ _ _)
  replace hs := hs.trans hbw
  replace Blg := hG.bx Blg notMem0
  replace Blx := hG.bx Blx notMem0
  replace h2 := h2.keep hk
  replace h3 := h3.keep hk
  clear hW hG hk hbw
  have hz_w5 : w4.heap.size < w5.heap.size := Blz.lt
  with_reducible refine (l7_is _ _ _ _ h2 h3 (SzQ.fit HPS.out)).mono ?_
  rintro e w6 ⟨rfl, hb⟩
  replace hs := bStep hs hb
  replace Blg := Blg.mono hb
  replace Blx := Blx.mono hb
  replace Blz := Blz.mono hb
  replace h2 := h2.mono hb
  replace h3 := h3.mono hb
  clear hb
  have cg_0 : w6.cell? ⟨w.heap.size, 0, none⟩ = some (.int .i64 ((f : Int))) := Blg.at 0 rfl
  have cg_1 : w6.cell? ⟨w.heap.size, 1, none⟩ = some (.int .i64 ((t : Int))) := Blg.at 1 rfl
  have cg_2 : w6.cell? ⟨w.heap.size, 2, none⟩ = some (.float .f32 lv) := Blg.at 2 rfl
  have Lg : w.heap.size < w6.heap.size := Blg.lt
  go_wp2
  clear cg_0 cg_1 cg_2 Lg
  go_loopw [17] (fun s17 wq => ∃ i : Nat, f ≤ i ∧ i ≤ t ∧ s17 = .int .i64 i ∧ Below w.heap.size w wq ∧ Bx wq (w.heap.size) 47 #[.int .i64 ((f : Int)), .int .i64 ((t : Int)), .float .f32 lv] ∧ Bx wq (w2.heap.size) 32 #[.bool sh2, .slice ah2 nh2 ch2, .slice Ah2 Nh2 Ch2] ∧ Bx wq (w4.heap.size) 38 #[.bool sh3, .slice ah3 nh3 ch3, .slice Ah3 Nh3 Ch3] ∧ PV wq (.agg #[.bool sh2, .slice ah2 nh2 ch2, .slice Ah2 Nh2 Ch2]) (pv) ∧ RV wq (.agg #[.bool sh3, .slice ah3 nh3 ch3, .slice Ah3 Nh3 Ch3]) (pv)) (fun s17 _ => t - (intOf s17).toNat)
  case atStart => exact ⟨f, Nat.le_refl _, by omega, rfl, hs, Blg, Blx, Blz, h2, h3⟩
  case round =>
    clear Blg Blx Blz h2 h3 hs
    obtain ⟨i, k_ge, k_le, rfl, hs, Blg, Blx, Blz, h2, h3⟩ := hrel
    by_cases q5 : i < t
    · have q5d : ((i : Int) < (t : Int)) = True := eq_true (by omega)
      have BI6a : i < ys.length := by omega
      have BI6b : ((i : Int) : Int) < (ys.length : Int) := by omega
      have Ee7 := rowF_at (HL.out.mono F32.kept hs) (show i < ys.length by omega)
      have hcv := cv_num (HNO.out i (show i < ys.length by omega))
      have cg_0 : wr.cell? ⟨w.heap.size, 0, none⟩ = some (.int .i64 ((f : Int))) := Blg.at 0 rfl
      have cg_1 : wr.cell? ⟨w.heap.size, 1, none⟩ = some (.int .i64 ((t : Int))) := Blg.at 1 rfl
      have cg_2 : wr.cell? ⟨w.heap.size, 2, none⟩ = some (.float .f32 lv) := Blg.at 2 rfl
      have Lg : w.heap.size < wr.heap.size := Blg.lt
      go_wp2_with fail
      clear cg_0 cg_1 cg_2 Lg Ee7
      with_reducible refine (float_finY HNO.out (show i < ys.length by omega) _).mono ?_
      rintro e w27 ⟨_, rfl, h8, hb⟩
      obtain ⟨sh8, ah8, nh8, ch8, Ah8, Nh8, Ch8, rfl⟩ := h8.shape
      replace hs := bStep hs hb
      replace Blg := Blg.mono hb
      replace Blx := Blx.mono hb
      replace Blz := Blz.mono hb
      replace h2 := h2.mono hb
      replace h3 := h3.mono hb
      clear hb
      go_upto_region 12 with fail
      refine Code.abs ?_
      intro w28 hW
      have hG : Gr [] w27 w28 := by rw [hW]; exact (Gr.refl _ _).alloc
      have hbw : Below w.heap.size w27 w28 := hG.below0 hs.size
      have hk : KeepD w27 w28 := hG.keep True.intro
      have sz_w28 : w.heap.size ≤ w27.heap.size := hs.size
      have ng_w28 : w.heap.size < w27.heap.size := Blg.lt
      have nx_w28 : w2.heap.size < w27.heap.size := Blx.lt
      have nz_w28 : w4.heap.size < w27.heap.size := Blz.lt
      have Bls : Bx w28 (w27.heap.size) 32 #[.bool sh8, .slice ah8 nh8 ch8, .slice Ah8 Nh8 Ch8] := by rw [hW]; exact (Bx.new0 _ _ _)
      replace hs := hs.trans hbw
      replace Blg := hG.bx Blg notMem0
      replace Blx := hG.bx Blx notMem0
      replace Blz := hG.bx Blz notMem0
      replace h2 := h2.keep hk
      replace h3 := h3.keep hk
      replace h8 := h8.keep hk
      clear hW hG hk hbw
      have hz_w28 : w27.heap.size < w28.heap.size := Bls.lt
      obtain ⟨sg10, Hsg10⟩ : ∃ s : Int, s = sgQ ((absQ (atQ (yQ ys) i)) - pv) := ⟨_, rfl⟩
      replace Hsg10 := Lib.hid Hsg10
      refine U_region (S := fun w' => w'.cell? ⟨w27.heap.size, 0, none⟩ = some (.bool sh8) ∧ w'.cell? ⟨w27.heap.size, 1, none⟩ = some (.slice ah8 nh8 ch8) ∧ w'.cell? ⟨w27.heap.size, 2, none⟩ = some (.slice Ah8 Nh8 Ch8) ∧ w'.cell? ⟨w2.heap.size, 0, none⟩ = some (.bool sh2) ∧ w'.cell? ⟨w2.heap.size, 1, none⟩ = some (.slice ah2 nh2 ch2) ∧ w'.cell? ⟨w2.heap.size, 2, none⟩ = some (.slice Ah2 Nh2 Ch2)) (by kernel_rfl) 9 ?_
      refine AnyU.abs ?_
      intro w29 hW
      have hb : Below w28.heap.size w28 w29 := by rw [hW]; exact bDrew _
      replace hs := bStep hs hb
      replace Blg := Blg.mono hb
      replace Blx := Blx.mono hb
      replace Blz := Blz.mono hb
      replace Bls := Bls.mono hb
      replace h2 := h2.mono hb
      replace h3 := h3.mono hb
      replace h8 := h8.mono hb
      clear hb hW
      have cs_0 : w29.cell? ⟨w27.heap.size, 0, none⟩ = some (.bool sh8) := Bls.at 0 rfl
      have cs_1 : w29.cell? ⟨w27.heap.size, 1, none⟩ = some (.slice ah8 nh8 ch8) := Bls.at 1 rfl
      have cs_2 : w29.cell? ⟨w27.heap.size, 2, none⟩ = some (.slice Ah8 Nh8 Ch8) := Bls.at 2 rfl
      have cx_0 : w29.cell? ⟨w2.heap.size, 0, none⟩ = some (.bool sh2) := Blx.at 0 rfl
      have cx_1 : w29.cell? ⟨w2.heap.size, 1, none⟩ = some (.slice ah2 nh2 ch2) := Blx.at 1 rfl
      have cx_2 : w29.cell? ⟨w2.heap.size, 2, none⟩ = some (.slice Ah2 Nh2 Ch2) := Blx.at 2 rfl
      have hH := (show w29.cell? ⟨w27.heap.size, 0, none⟩ = some (.bool sh8) ∧ w29.cell? ⟨w27.heap.size, 1, none⟩ = some (.slice ah8 nh8 ch8) ∧ w29.cell? ⟨w27.heap.size, 2, none⟩ = some (.slice Ah8 Nh8 Ch8) ∧ w29.cell? ⟨w2.heap.size, 0, none⟩ = some (.bool sh2) ∧ w29.cell? ⟨w2.heap.size, 1, none⟩ = some (.slice ah2 nh2 ch2) ∧ w29.cell? ⟨w2.heap.size, 2, none⟩ = some (.slice Ah2 Nh2 Ch2) from ⟨cs_0, cs_1, cs_2, cx_0, cx_1, cx_2⟩)
      refine U_tk 0 73 ?_ ?_ hH ?_
      rotate_left
      · (intro w hSw; (try dsimp only at hSw); go_simp; try with_reducible rfl)
      simp only [LY]
      refine U_tk 1 74 ?_ ?_ hH ?_
      rotate_left
      · (intro w hSw; (try dsimp only at hSw); go_simp; try with_reducible rfl)
      simp only [LY]
      try simp only [Bool.not_true, Bool.not_false, q1d, q4b, q4n, q5d]
      refine U_tk 2 75 ?_ ?_ hH ?_
      rotate_left
      · (intro w hSw; (try dsimp only at hSw); go_simp; try with_reducible rfl)
      simp only [LY]
      refine U_tk 3 76 ?_ ?_ hH ?_
      rotate_left
      · (intro w hSw; (try dsimp only at hSw); go_simp; try with_reducible rfl)
      simp only [LY]
      refine U_tk 5 78 ?_ ?_ hH ?_
      rotate_left
      · (intro w hSw; (try dsimp only at hSw); go_simp; try with_reducible rfl)
      simp only [LY]
      clear hH
      refine U_one (i := 4) (by kernel_rfl) rfl (fun K hK => ?_)
      go_simp
      (with_reducible refine (p_Abs_calls _ _ _ h8).mono ?_)
      rintro e w30 ⟨_, rfl, h9, hb⟩
      obtain ⟨sh9, ah9, nh9, ch9, Ah9, Nh9, Ch9, rfl⟩ := h9.shape
      replace hs := bStep hs hb
      replace Blg := Blg.mono hb
      replace Blx := Blx.mono hb
      replace Blz := Blz.mono hb
      replace Bls := Bls.mono hb
      replace h2 := h2.mono hb
      replace h3 := h3.mono hb
      replace h8 := h8.mono hb
      replace cs_0 := cellK cs_0 hb
      replace cs_1 := cellK cs_1 hb
      replace cs_2 := cellK cs_2 hb
      replace cx_0 := cellK cx_0 hb
      replace cx_1 := cellK cx_1 hb
      replace cx_2 := cellK cx_2 hb
      clear hb
      try go_wp2_with fail
      refine hK.out _ _ ⟨cs_0, cs_1, cs_2, cx_0, cx_1, cx_2⟩ (fun hH => ?_)
      clear hK K
      try simp only [LY]
      clear hH
      refine U_one (i := 6) (by kernel_rfl) rfl (fun K hK => ?_)
      go_simp
      (with_reducible refine (pCmp h9 h2 (SzQ.fit (absQ_sz (atQ_sz HNO.out (show i < ys.length by omega)))) (SzQ.fit HPS.out)).mono ?_)
      rintro e w31 ⟨rfl, hb⟩
      replace hs := bStep hs hb
      replace Blg := Blg.mono hb
      replace Blx := Blx.mono hb
      replace Blz := Blz.mono hb
      replace Bls := Bls.mono hb
      replace h2 := h2.mono hb
      replace h3 := h3.mono hb
      replace h8 := h8.mono hb
      replace h9 := h9.mono hb
      replace cs_0 := cellK cs_0 hb
      replace cs_1 := cellK cs_1 hb
      replace cs_2 := cellK cs_2 hb
      replace cx_0 := cellK cx_0 hb
      replace cx_1 := cellK cx_1 hb
      replace cx_2 := cellK cx_2 hb
      clear hb
      rw [← Hsg10.out]
      try go_wp2_with fail
      refine hK.out _ _ ⟨cs_0, cs_1, cs_2, cx_0, cx_1, cx_2⟩ (fun hH => ?_)
      clear hK K
      try simp only [LY]
      refine U_tk 7 80 ?_ ?_ hH ?_
      rotate_left
      · (intro w hSw; (try dsimp only at hSw); go_simp; try with_reducible rfl)
      simp only [LY]
      try simp only [Bool.not_true, Bool.not_false, q1d, q4b, q4n, q5d]
      refine U_tk 8 81 ?_ ?_ hH ?_
      rotate_left
      · (intro w hSw; (try dsimp only at hSw); go_simp; try with_reducible rfl)
      simp only [LY]
      clear hH
      refine U_endN (by kernel_rfl) ?_
      clear cs_0 cs_1 cs_2 cx_0 cx_1 cx_2
      have q11 : ¬ (pv < absQ (atQ (yQ ys) i)) := (HMX.out i (by omega) (by omega))
      have q11_ : ¬ (0 < sg10) := by have h := sq_gt (absQ (atQ (yQ ys) i)) pv; rw [← Hsg10.out] at h; exact fun h1 => q11 (h.1 h1)
      have q11H := Lib.hid q11
      clear q11
      have q11d : decide (0 < sg10) = false := decide_eq_false q11_
      go_wp2
      go_roundw
      case rel => exact ⟨i + 1, by omega, by omega, by go_num, hs, Blg, Blx, Blz, h2, h3⟩
      all_goals first | (simp [intOf]; done) | (simp [intOf]; omega)
    · have q5d : ((i : Int) < (t : Int)) = False := eq_false (by omega)
      have cg_0 : wr.cell? ⟨w.heap.size, 0, none⟩ = some (.int .i64 ((f : Int))) := Blg.at 0 rfl
      have cg_1 : wr.cell? ⟨w.heap.size, 1, none⟩ = some (.int .i64 ((t : Int))) := Blg.at 1 rfl
      have cg_2 : wr.cell? ⟨w.heap.size, 2, none⟩ = some (.float .f32 lv) := Blg.at 2 rfl
      have Lg : w.heap.size < wr.heap.size := Blg.lt
      go_wp2_with fail
      clear cg_0 cg_1 cg_2 Lg
      with_reducible refine (HF.out _ hs).mono ?_
      rintro e w27 ⟨_, _, rfl, rfl, rfl, hb⟩
      replace hs := bStep hs hb
      replace Blg := Blg.mono hb
      replace Blx := Blx.mono hb
      replace Blz := Blz.mono hb
      replace h2 := h2.mono hb
      replace h3 := h3.mono hb
      clear hb
      have cg_0 : w27.cell? ⟨w.heap.size, 0, none⟩ = some (.int .i64 ((f : Int))) := Blg.at 0 rfl
      have cg_1 : w27.cell? ⟨w.heap.size, 1, none⟩ = some (.int .i64 ((t : Int))) := Blg.at 1 rfl
      have cg_2 : w27.cell? ⟨w.heap.size, 2, none⟩ = some (.float .f32 lv) := Blg.at 2 rfl
      have Lg : w.heap.size < w27.heap.size := Blg.lt
      go_wp2_with fail
      clear cg_0 cg_1 cg_2 Lg
      refine Calls.abs ?_
      intro w28 hW
      have hG : Gr [] w27 w28 := by rw [hW]; exact (Gr.refl _ _).alloc
      have hbw : Below w.heap.size w27 w28 := hG.below0 hs.size
      have hk : KeepD w27 w28 := hG.keep True.intro
      have sz_w28 : w.heap.size ≤ w27.heap.size := hs.size
      have ng_w28 : w.heap.size < w27.heap.size := Blg.lt
      have nx_w28 : w2.heap.size < w27.heap.size := Blx.lt
      have nz_w28 : w4.heap.size < w27.heap.size := Blz.lt
      have Bla : Bx w28 (w27.heap.size) 47 #[.int .i64 ga, .int .i64 gb, .float .f32 gl] := by rw [hW]; exact (Bx.new0 _ _ _)
      replace hs := hs.trans hbw
      replace Blg := hG.bx Blg notMem0
      replace Blx := hG.bx Blx notMem0
      replace Blz := hG.bx Blz notMem0
      replace h2 := h2.keep hk
      replace h3 := h3.keep hk
      clear hW hG hk hbw
      have hz_w28 : w27.heap.size < w28.heap.size := Bla.lt
      with_reducible refine (HG.out _ hs).mono ?_
      rintro e w29 ⟨_, _, rfl, rfl, rfl, hb⟩
      replace hs := bStep hs hb
      replace Blg := Blg.mono hb
      replace Blx := Blx.mono hb
      replace Blz := Blz.mono hb
      replace Bla := Bla.mono hb
      replace h2 := h2.mono hb
      replace h3 := h3.mono hb
      clear hb
      go_upto_region 16 with fail
      refine Code.abs ?_
      intro w30 hW
      have hG : Gr [] w29 w30 := by rw [hW]; exact (Gr.refl _ _).alloc
      have hbw : Below w.heap.size w29 w30 := hG.below0 hs.size
      have hk : KeepD w29 w30 := hG.keep True.intro
      have sz_w30 : w.heap.size ≤ w29.heap.size := hs.size
      have ng_w30 : w.heap.size < w29.heap.size := Blg.lt
      have nx_w30 : w2.heap.size < w29.heap.size := Blx.lt
      have nz_w30 : w4.heap.size < w29.heap.size := Blz.lt
      have na_w30 : w27.heap.size < w29.heap.size := Bla.lt
      have Blb : Bx w30 (w29.heap.size) 52 #[.int .i64 ga, .int .i64 gb, .float .f32 gl] := by rw [hW]; exact (Bx.new0 _ _ _)
      replace hs := hs.trans hbw
      replace Blg := hG.bx Blg notMem0
      replace Blx := hG.bx Blx notMem0
      replace Blz := hG.bx Blz notMem0
      replace Bla := hG.bx Bla notMem0
      replace h2 := h2.keep hk
      replace h3 := h3.keep hk
      clear hW hG hk hbw
      have hz_w30 : w29.heap.size < w30.heap.size := Blb.lt
      have q6b : (fe == fe) = true := beq_self_eq_true _
      have q6n : (fe != fe) = false := bne_self_eq_false _
      have q7b : (ga == ga) = true := beq_self_eq_true _
      have q7n : (ga != ga) = false := bne_self_eq_false _
      have q8b : (gb == gb) = true := beq_self_eq_true _
      have q8n : (gb != gb) = false := bne_self_eq_false _
      have q9b : ((gl : Int) == (gl : Int)) = true := beq_self_eq_true _
      have q9n : ((gl : Int) != (gl : Int)) = false := bne_self_eq_false _
      refine U_region (S := fun w' => w'.cell? ⟨w27.heap.size, 0, none⟩ = some (.int .i64 ga) ∧ w'.cell? ⟨w27.heap.size, 1, none⟩ = some (.int .i64 gb) ∧ w'.cell? ⟨w27.heap.size, 2, none⟩ = some (.float .f32 gl) ∧ w'.cell? ⟨w29.heap.size, 0, none⟩ = some (.int .i64 ga) ∧ w'.cell? ⟨w29.heap.size, 1, none⟩ = some (.int .i64 gb) ∧ w'.cell? ⟨w29.heap.size, 2, none⟩ = some (.float .f32 gl)) (by kernel_rfl) 30 ?_
      refine AnyU.abs ?_
      intro w31 hW
      have hb : Below w30.heap.size w30 w31 := by rw [hW]; exact bDrew _
      replace hs := bStep hs hb
      replace Blg := Blg.mono hb
      replace Blx := Blx.mono hb
      replace Blz := Blz.mono hb
      replace Bla := Bla.mono hb
      replace Blb := Blb.mono hb
      replace h2 := h2.mono hb
      replace h3 := h3.mono hb
      clear hb hW
      have ca_0 : w31.cell? ⟨w27.heap.size, 0, none⟩ = some (.int .i64 ga) := Bla.at 0 rfl
      have ca_1 : w31.cell? ⟨w27.heap.size, 1, none⟩ = some (.int .i64 gb) := Bla.at 1 rfl
      have ca_2 : w31.cell? ⟨w27.heap.size, 2, none⟩ = some (.float .f32 gl) := Bla.at 2 rfl
      have cb_0 : w31.cell? ⟨w29.heap.size, 0, none⟩ = some (.int .i64 ga) := Blb.at 0 rfl
      have cb_1 : w31.cell? ⟨w29.heap.size, 1, none⟩ = some (.int .i64 gb) := Blb.at 1 rfl
      have cb_2 : w31.cell? ⟨w29.heap.size, 2, none⟩ = some (.float .f32 gl) := Blb.at 2 rfl
      have hH := (show w31.cell? ⟨w27.heap.size, 0, none⟩ = some (.int .i64 ga) ∧ w31.cell? ⟨w27.heap.size, 1, none⟩ = some (.int .i64 gb) ∧ w31.cell? ⟨w27.heap.size, 2, none⟩ = some (.float .f32 gl) ∧ w31.cell? ⟨w29.heap.size, 0, none⟩ = some (.int .i64 ga) ∧ w31.cell? ⟨w29.heap.size, 1, none⟩ = some (.int .i64 gb) ∧ w31.cell? ⟨w29.heap.size, 2, none⟩ = some (.float .f32 gl) from ⟨ca_0, ca_1, ca_2, cb_0, cb_1, cb_2⟩)
      refine U_tk 0 100 ?_ ?_ hH ?_
      rotate_left
      · (intro w hSw; (try dsimp only at hSw); go_simp; try with_reducible rfl)
      simp only [LY]
      refine U_tk 1 101 ?_ ?_ hH ?_
      rotate_left
      · (intro w hSw; (try dsimp only at hSw); go_simp; try with_reducible rfl)
      simp only [LY]
      refine U_tk 2 102 ?_ ?_ hH ?_
      rotate_left
      · (intro w hSw; (try dsimp only at hSw); go_simp; try with_reducible rfl)
      simp only [LY]
      try simp only [Bool.not_true, Bool.not_false, q1d, q4b, q4n, q5d, q6b, q6n, q7b, q7n, q8b, q8n, q9b, q9n]
      refine U_tk 3 103 ?_ ?_ hH ?_
      rotate_left
      · (intro w hSw; (try dsimp only at hSw); go_simp; try with_reducible rfl)
      simp only [LY]
      refine U_tk 4 104 ?_ ?_ hH ?_
      rotate_left
      · (intro w hSw; (try dsimp only at hSw); go_simp; try with_reducible rfl)
      simp only [LY]
      refine U_tk 5 105 ?_ ?_ hH ?_
      rotate_left
      · (intro w hSw; (try dsimp only at hSw); go_simp; try with_reducible rfl)
      simp only [LY]
      refine U_tk 6 106 ?_ ?_ hH ?_
      rotate_left
      · (intro w hSw; (try dsimp only at hSw); go_simp; try with_reducible rfl)
      simp only [LY]
      refine U_tk 7 107 ?_ ?_ hH ?_
      rotate_left
      · (intro w hSw; (try dsimp only at hSw); go_simp; try with_reducible rfl)
      simp only [LY]
      refine U_tk 8 108 ?_ ?_ hH ?_
      rotate_left
      · (intro w hSw; (try dsimp only at hSw); go_simp; try with_reducible rfl)
      simp only [LY]
      try simp only [Bool.not_true, Bool.not_false, q1d, q4b, q4n, q5d, q6b, q6n, q7b, q7n, q8b, q8n, q9b, q9n]
      refine U_tk 9 109 ?_ ?_ hH ?_
      rotate_left
      · (intro w hSw; (try dsimp only at hSw); go_simp; try with_reducible rfl)
      simp only [LY]
      refine U_tk 10 110 ?_ ?_ hH ?_
      rotate_left
      · (intro w hSw; (try dsimp only at hSw); go_simp; try with_reducible rfl)
      simp only [LY]
      refine U_tk 11 111 ?_ ?_ hH ?_
      rotate_left
      · (intro w hSw; (try dsimp only at hSw); go_simp; try with_reducible rfl)
      simp only [LY]
      refine U_tk 12 112 ?_ ?_ hH ?_
      rotate_left
      · (intro w hSw; (try dsimp only at hSw); go_simp; try with_reducible rfl)
      simp only [LY]
      refine U_tk 13 113 ?_ ?_ hH ?_
      rotate_left
      · (intro w hSw; (try dsimp only at hSw); go_simp; try with_reducible rfl)
      simp only [LY]
      refine U_tk 14 114 ?_ ?_ hH ?_
      rotate_left
      · (intro w hSw; (try dsimp only at hSw); go_simp; try with_reducible rfl)
      simp only [LY]
      refine U_tk 15 115 ?_ ?_ hH ?_
      rotate_left
      · (intro w hSw; (try dsimp only at hSw); go_simp; try with_reducible rfl)
      simp only [LY]
      try simp only [Bool.not_true, Bool.not_false, q1d, q4b, q4n, q5d, q6b, q6n, q7b, q7n, q8b, q8n, q9b, q9n]
      refine U_tk 16 116 ?_ ?_ hH ?_
      rotate_left
      · (intro w hSw; (try dsimp only at hSw); go_simp; try with_reducible rfl)
      simp only [LY]
      refine U_tk 17 117 ?_ ?_ hH ?_
      rotate_left
      · (intro w hSw; (try dsimp only at hSw); go_simp; try with_reducible rfl)
      simp only [LY]
      refine U_tk 18 118 ?_ ?_ hH ?_
      rotate_left
      · (intro w hSw; (try dsimp only at hSw); go_simp; try with_reducible rfl)
      simp only [LY]
      refine U_tk 19 119 ?_ ?_ hH ?_
      rotate_left
      · (intro w hSw; (try dsimp only at hSw); go_simp; try with_reducible rfl)
      simp only [LY]
      refine U_tk 21 121 ?_ ?_ hH ?_
      rotate_left
      · (intro w hSw; (try dsimp only at hSw); go_simp; try with_reducible rfl)
      simp only [LY]
      refine U_tk 22 122 ?_ ?_ hH ?_
      rotate_left
      · (intro w hSw; (try dsimp only at hSw); go_simp; try with_reducible rfl)
      simp only [LY]
      clear hH
      refine U_one (i := 20) (by kernel_rfl) rfl (fun K hK => ?_)
      go_simp
      try go_wp2_with fail
      refine hK.out _ _ ⟨ca_0, ca_1, ca_2, cb_0, cb_1, cb_2⟩ (fun hH => ?_)
      clear hK K
      try simp only [LY]
      clear hH
      refine U_one (i := 23) (by kernel_rfl) rfl (fun K hK => ?_)
      go_simp
      try go_wp2_with fail
      refine hK.out _ _ ⟨ca_0, ca_1, ca_2, cb_0, cb_1, cb_2⟩ (fun hH => ?_)
      clear hK K
      try simp only [LY]
      refine U_tk 24 124 ?_ ?_ hH ?_
      rotate_left
      · (intro w hSw; (try dsimp only at hSw); go_simp; try with_reducible rfl)
      simp only [LY]
      try simp only [Bool.not_true, Bool.not_false, q1d, q4b, q4n, q5d, q6b, q6n, q7b, q7n, q8b, q8n, q9b, q9n]
      refine U_tk 25 125 ?_ ?_ hH ?_
      rotate_left
      · (intro w hSw; (try dsimp only at hSw); go_simp; try with_reducible rfl)
      simp only [LY]
      refine U_tk 26 126 ?_ ?_ hH ?_
      rotate_left
      · (intro w hSw; (try dsimp only at hSw); go_simp; try with_reducible rfl)
      simp only [LY]
      clear hH
      refine U_one (i := 27) (by kernel_rfl) rfl (fun K hK => ?_)
      go_simp
      (with_reducible refine (HAW.out _).mono ?_)
      rintro e w32 ⟨rfl, hb⟩
      replace hs := bStep hs hb
      replace Blg := Blg.mono hb
      replace Blx := Blx.mono hb
      replace Blz := Blz.mono hb
      replace Bla := Bla.mono hb
      replace Blb := Blb.mono hb
      replace h2 := h2.mono hb
      replace h3 := h3.mono hb
      replace ca_0 := cellK ca_0 hb
      replace ca_1 := cellK ca_1 hb
      replace ca_2 := cellK ca_2 hb
      replace cb_0 := cellK cb_0 hb
      replace cb_1 := cellK cb_1 hb
      replace cb_2 := cellK cb_2 hb
      clear hb
      try go_wp2_with fail
      refine hK.out _ _ ⟨ca_0, ca_1, ca_2, cb_0, cb_1, cb_2⟩ (fun hH => ?_)
      clear hK K
      try simp only [LY]
      refine U_tk 28 128 ?_ ?_ hH ?_
      rotate_left
      · (intro w hSw; (try dsimp only at hSw); go_simp; try with_reducible rfl)
      simp only [LY]
      refine U_tk 29 10 ?_ ?_ hH ?_
      rotate_left
      · (intro w hSw; (try dsimp only at hSw); go_simp; try with_reducible rfl)
      simp only [LY]
      clear hH
      refine U_endN (by kernel_rfl) ?_
      clear ca_0 ca_1 ca_2 cb_0 cb_1 cb_2
      go_wp2
      go_ret
      exact ⟨rfl, hs⟩

theorem l7_ScanPeaks_all (hAw : ∀ w : World, Calls Tryz.prog 8 #[] w (RetV w (.bool true))) (v : Value) (ys : List Nat) (f t a b : Int) (lv lw : Nat) (w : World) (hl : RowsI 1 F32 w v (ys.map fun x => (x, flQ (cvF x)))) :
    Calls Tryz.prog 4 #[v, .agg #[.int .i64 f, .int .i64 t, .float .f32 lv], .int .i64 a, .int .i64 b, .float .f32 lw] w (RetV w (.bool true)) := by
  have hP := fun (w' : World) (hb : Below w.heap.size w w') => sc_Peak_calls v ys f t lv w' (hl.mono F32.kept hb)
  have hQ := fun (w' : World) (hb : Below w.heap.size w w') => r7_Peak_calls v ys f t lv w' (hl.mono F32.kept hb)
  have hF := fun (w' : World) (hb : Below w.heap.size w w') => sc_Follow_calls v ys f t a b lv lw w' (hl.mono F32.kept hb)
  have hG := fun (w' : World) (hb : Below w.heap.size w w') => r7_Follow_calls v ys f t a b lv lw w' (hl.mono F32.kept hb)
  have hl0 := hl
  obtain ⟨ao, cap, rfl, hc1, hc2, hc3⟩ := hl.slice
  rw [List.length_map] at hl0 hP hQ hF hG ⊢
  by_cases h300 : 300 < ys.length
  · exact l7_ScanPeaks_long hAw ao cap ys f t a b lv lw w h300
  · by_cases he : peakE ys f t lv = 0
    · obtain ⟨ht, hg, h0⟩ := peak_zero he
      obtain ⟨hN, hno⟩ := trace_zero ht
      obtain ⟨g1, g2, g3, g4, g5⟩ := gateE_zero hg
      have hno' : ∀ i, i < ys.length → f32E (nthN ys i) ≠ 255 := fun i hi => hno _ (List.mem_of_getElem? (nthN_some hi))
      have eV : peakV ys f t lv = absQ (atQ (yQ ys) (pkA (yQ ys) f.toNat (t.toNat - f.toNat))) := by
        unfold peakE at he
        unfold peakV
        rw [if_neg (by rw [h0]; decide)] at he ⊢
        unfold pkE at he
        unfold pkV
        split at he
        · cases he
        · rename_i hn; rw [if_neg hn]
      have hb := pkA_le (yQ ys) f.toNat (t.toNat - f.toNat)
      obtain ⟨f, rfl⟩ := Int.eq_ofNat_of_zero_le g1
      obtain ⟨t, rfl⟩ := Int.eq_ofNat_of_zero_le (show 0 ≤ t by omega)
      have hx : (ys.map fun x => (x, flQ (cvF x)))[0]? = some (nthN ys 0, flQ (cvF (nthN ys 0))) := by rw [List.getElem?_map, nthN_some (by omega)]; rfl
      obtain ⟨b', o', c', cs, hv, -, -, -⟩ := hl0.get hx
      obtain ⟨rfl, rfl⟩ := sliceE hv
      rw [he] at hP hQ
      rw [Int.toNat_natCast, Int.toNat_natCast] at eV hb
      refine l7_ScanPeaks_ok hAw b' o' cap ys f t a b lv lw _ _ _ _ _ _ w hl0 (by omega) (by omega) (by omega) hno' (fun i h1 h2 => ?_) ?_ hP hQ hF hG
      · rw [eV]
        exact pkA_max (yQ ys) f (t - f) i h1 (by omega)
      · rw [eV]
        exact absQ_sz (atQ_sz hno' (by omega))
    · have sp : SzQ 40 (peakV ys f t lv) := by
        by_cases h0 : peakE0 ys f t lv = 0
        · have ht : traceE ys = 0 := by
            unfold peakE0 at h0
            split at h0
            · exact h0
            · rename_i hn; exact Decidable.not_not.1 hn
          have hg : gateE f t ys.length lv = 0 := by
            unfold peakE0 at h0
            rwa [if_neg (by rw [ht]; decide)] at h0
          obtain ⟨hN, hno⟩ := trace_zero ht
          obtain ⟨g1, g2, g3, g4, g5⟩ := gateE_zero hg
          have hb := pkA_le (yQ ys) f.toNat (t.toNat - f.toNat)
          unfold peakV
          rw [if_neg (by rw [h0]; decide)]
          unfold pkV
          split
          · exact szQ_zero.mono (by decide)
          · exact absQ_sz (atQ_sz (fun i hi => hno _ (List.mem_of_getElem? (nthN_some hi))) (by omega))
        · unfold peakV
          rw [if_pos h0]
          exact szQ_zero.mono (by decide)
      exact l7_ScanPeaks_err hAw ao cap ys f t a b lv lw _ _ _ _ _ _ _ w (by omega) he sp hP hQ hF hG
end Go.Proofs.YtkfekkhhfpkfaaaGreat
