/-
  The library's tests on floats: bits, NaN, infinities.
-/
import Derived.Test.YtkfekkhhfpkfaaaGreatPkScanG
import Derived.Laws.Externs
import Derived.Laws.FloatArith
set_option linter.unusedSimpArgs false
set_option linter.unusedVariables false
set_option maxRecDepth 100000
set_option maxHeartbeats 4000000
namespace Go.Proofs.YtkfekkhhfpkfaaaGreat
open Go.RowKit Dg
attribute [local go_sem ↓] Go.wp_at_zero Go.wp_at_succ
theorem bits_find : Extern.find Tryz.f43 = some Extern.MathFloatBits.float64bits := by kernel_rfl
theorem frombits_find : Extern.find Tryz.f167 = some Extern.MathFloatBits.float64frombits := by kernel_rfl
theorem run_bits (b : Nat) (w : World) : (callFunc 43 #[.float .f64 b]).run Tryz.prog w = .ok (.value (.int .u64 b)) w := by
 rw [run_callFunc_extern Tryz.func43 (by kernel_rfl) (by kernel_rfl) (by kernel_rfl) bits_find]
 rfl
theorem run_frombits (n : Int) (w : World) : (callFunc 167 #[.int .u64 n]).run Tryz.prog w = .ok (.value (.float .f64 n.toNat)) w := by
 rw [run_callFunc_extern Tryz.func167 (by kernel_rfl) (by kernel_rfl) (by kernel_rfl) frombits_find]
 rfl
theorem nan_z (w : World) : Calls Tryz.prog 74 #[.float .f64 0] w (RetV w (.bool false)) := by
 go_enter Tryz.func74, Tryz.ntmps74
 go_wp2
 go_ret
 exact ⟨rfl, Below.refl _ _⟩
theorem nan_p1 (w : World) : Calls Tryz.prog 74 #[.float .f64 4607182418800017408] w (RetV w (.bool false)) := by
 go_enter Tryz.func74, Tryz.ntmps74
 go_wp2
 go_ret
 exact ⟨rfl, Below.refl _ _⟩
theorem nan_m3 (w : World) : Calls Tryz.prog 74 #[.float .f64 13837309855095848960] w (RetV w (.bool false)) := by
 go_enter Tryz.func74, Tryz.ntmps74
 go_wp2
 go_ret
 exact ⟨rfl, Below.refl _ _⟩
theorem nan_p3 (w : World) : Calls Tryz.prog 74 #[.float .f64 4613937818241073152] w (RetV w (.bool false)) := by
 go_enter Tryz.func74, Tryz.ntmps74
 go_wp2
 go_ret
 exact ⟨rfl, Below.refl _ _⟩
theorem nan_p2 (w : World) : Calls Tryz.prog 74 #[.float .f64 4611686018427387904] w (RetV w (.bool false)) := by
 go_enter Tryz.func74, Tryz.ntmps74
 go_wp2
 go_ret
 exact ⟨rfl, Below.refl _ _⟩
theorem inf_z (w : World) : Calls Tryz.prog 75 #[.float .f64 0, .int .i64 0] w (RetV w (.bool false)) := by
 have hb1 := run_bits
 have hb2 := run_frombits
 go_enter Tryz.func75, Tryz.ntmps75
 go_wp2
 go_ret
 exact ⟨rfl, Below.refl _ _⟩
theorem inf_p1 (w : World) : Calls Tryz.prog 75 #[.float .f64 4607182418800017408, .int .i64 0] w (RetV w (.bool false)) := by
 have hb1 := run_bits
 have hb2 := run_frombits
 go_enter Tryz.func75, Tryz.ntmps75
 go_wp2
 go_ret
 exact ⟨rfl, Below.refl _ _⟩
theorem inf_m3 (w : World) : Calls Tryz.prog 75 #[.float .f64 13837309855095848960, .int .i64 0] w (RetV w (.bool false)) := by
 have hb1 := run_bits
 have hb2 := run_frombits
 go_enter Tryz.func75, Tryz.ntmps75
 go_wp2
 go_ret
 exact ⟨rfl, Below.refl _ _⟩
theorem inf_p3 (w : World) : Calls Tryz.prog 75 #[.float .f64 4613937818241073152, .int .i64 0] w (RetV w (.bool false)) := by
 have hb1 := run_bits
 have hb2 := run_frombits
 go_enter Tryz.func75, Tryz.ntmps75
 go_wp2
 go_ret
 exact ⟨rfl, Below.refl _ _⟩
theorem inf_p2 (w : World) : Calls Tryz.prog 75 #[.float .f64 4611686018427387904, .int .i64 0] w (RetV w (.bool false)) := by
 have hb1 := run_bits
 have hb2 := run_frombits
 go_enter Tryz.func75, Tryz.ntmps75
 go_wp2
 go_ret
 exact ⟨rfl, Below.refl _ _⟩
end Go.Proofs.YtkfekkhhfpkfaaaGreat
namespace Go.Proofs.YtkfekkhhfpkfaaaGreat
open Go.RowKit Dg
attribute [local go_sem ↓] Go.wp_at_zero Go.wp_at_succ
theorem wide_z (w : World) : (convert 45 55 (.float .f32 0)).run Tryz.prog w = .ok (.float .f64 0) w := by
 have h := run_convert_float_float (P := Tryz.prog) (w := w) 45 55 .f32 .f64 0 0 (by kernel_rfl) (by kernel_rfl) (by kernel_rfl)
 exact h
theorem wide_p1 (w : World) : (convert 45 55 (.float .f32 1065353216)).run Tryz.prog w = .ok (.float .f64 4607182418800017408) w := by
 have h := run_convert_float_float (P := Tryz.prog) (w := w) 45 55 .f32 .f64 1065353216 4607182418800017408 (by kernel_rfl) (by kernel_rfl) (by kernel_rfl)
 exact h
theorem wide_m3 (w : World) : (convert 45 55 (.float .f32 3225419776)).run Tryz.prog w = .ok (.float .f64 13837309855095848960) w := by
 have h := run_convert_float_float (P := Tryz.prog) (w := w) 45 55 .f32 .f64 3225419776 13837309855095848960 (by kernel_rfl) (by kernel_rfl) (by kernel_rfl)
 exact h
theorem wide_p3 (w : World) : (convert 45 55 (.float .f32 1077936128)).run Tryz.prog w = .ok (.float .f64 4613937818241073152) w := by
 have h := run_convert_float_float (P := Tryz.prog) (w := w) 45 55 .f32 .f64 1077936128 4613937818241073152 (by kernel_rfl) (by kernel_rfl) (by kernel_rfl)
 exact h
theorem wide_p2 (w : World) : (convert 45 55 (.float .f32 1073741824)).run Tryz.prog w = .ok (.float .f64 4611686018427387904) w := by
 have h := run_convert_float_float (P := Tryz.prog) (w := w) 45 55 .f32 .f64 1073741824 4611686018427387904 (by kernel_rfl) (by kernel_rfl) (by kernel_rfl)
 exact h
theorem sc_check_ok (w : World) : Calls Tryz.prog 68 #[.agg #[.int .i64 0, .int .i64 5, .float .f32 1065353216], .int .i64 5] w (RetV w (.int .i64 0)) := by
 have hs := Below.refl w.heap.size w
 have hcv := wide_p1
 go_enter Tryz.func68, Tryz.ntmps68
 go_wp2_with fail
 refine Calls.abs ?_
 intro w1 hW
 have hsz := hs.size
 have hbw : Below w.heap.size w w1 := by rw [hW]; exact (Below.alloc (Below.refl w.heap.size w) (by first | exact hs.size | (have := hs.size; simp; done) | (have := hs.size; simp; omega)) _)
 have hs1 : Below w.heap.size w w1 := hs.trans hbw
 have hk : KeepD w w1 := by rw [hW]; exact ((KeepD.refl _).alloc _)
 have Bl1g : Bx w1 (w.heap.size) 47 #[.int .i64 0, .int .i64 5, .float .f32 1065353216] := by rw [hW]; exact (Bx.new' _ _ _ _ (by first | rfl | (simp; done)))
 replace hs := hs1
 clear hs1
 have Blg := Bl1g
 clear Bl1g
 clear hW hk hsz hbw
 have hz_w1 := Blg.lt
 refine (nan_p1 _).mono ?_
 rintro e w2 ⟨rfl, hb⟩
 replace hs := bStep hs hb
 replace Blg := Blg.mono hb
 clear hb
 go_wp2_with fail
 refine (inf_p1 _).mono ?_
 rintro e w3 ⟨rfl, hb⟩
 replace hs := bStep hs hb
 replace Blg := Blg.mono hb
 clear hb
 go_wp2
 go_ret
 exact ⟨rfl, hs⟩
end Go.Proofs.YtkfekkhhfpkfaaaGreat
namespace Go.Proofs.YtkfekkhhfpkfaaaGreat
open Go.RowKit Dg
attribute [local go_sem ↓] Go.wp_at_zero Go.wp_at_succ
theorem ln_left {v : Value} {x K k : Nat} {w : World} (h : NatV .u64 18446744073709551616 w v x) (hx : x < 18446744073709551616 ^ K) (hK : K ≤ 1099511627774) (hk : k ≤ 1099511627776) : Calls Tryz.prog 78 #[v, .int .i64 k] w (RetN .u64 18446744073709551616 w (x * 2 ^ k)) := by
 obtain ⟨ao, n, c, l, rfl, hs, hc, rfl, hn⟩ := h.szP hx
 exact l_left_calls ao n c l k w hs hc (by omega) hk
theorem float_p1 (w : World) : Calls Tryz.prog 16 #[.float .f64 4607182418800017408] w (RetPE w (1) 0) := by
 have hs := Below.refl w.heap.size w
 have hb1 := run_bits
 have H1 : bits BinOp.and IntKind.u64 4607182418800017408 4503599627370495 = 0 := by kernel_rfl
 have H2 : bits BinOp.and IntKind.u64 1023 2047 = 1023 := by kernel_rfl
 have H3 : bits BinOp.or IntKind.u64 0 4503599627370496 = 4503599627370496 := by kernel_rfl
 have c1 : ∀ w : World, Calls Tryz.prog 77 #[.int .u64 4503599627370496] w (RetN .u64 18446744073709551616 w 4503599627370496) := fun w => ln_word 4503599627370496 w (by decide)
 have c2 : ∀ w : World, Calls Tryz.prog 77 #[.int .u64 1] w (RetN .u64 18446744073709551616 w 1) := fun w => ln_word 1 w (by decide)
 have c3 : ∀ (v : Value) (w : World), NatV .u64 18446744073709551616 w v 1 → Calls Tryz.prog 78 #[v, .int .i64 52] w (RetN .u64 18446744073709551616 w (1 * 2 ^ 52)) := fun v w h => ln_left (k := 52) h (K := 1) (by decide) (by decide) (by decide)
 have HC1 := Lib.hid c1
 have HC2 := Lib.hid c2
 have HC3 := Lib.hid c3
 clear c1 c2 c3
 go_enter Tryz.func16, Tryz.ntmps16
 go_wp2_with fail
 refine Calls.abs ?_
 intro w1 hW
 have hsz := hs.size
 have hbw : Below w.heap.size w w1 := by rw [hW]; exact (Below.alloc (Below.refl w.heap.size w) (by first | exact hs.size | (have := hs.size; simp; done) | (have := hs.size; simp; omega)) _)
 have hs1 : Below w.heap.size w w1 := hs.trans hbw
 have hk : KeepD w w1 := by rw [hW]; exact ((KeepD.refl _).alloc _)
 have Bl1z : Bx w1 (w.heap.size) 32 #[.bool false, .slice none 0 0, .slice none 0 0] := by rw [hW]; exact (Bx.new' _ _ _ _ (by first | rfl | (simp; done)))
 replace hs := hs1
 clear hs1
 have Blz := Bl1z
 clear Bl1z
 clear hW hk hsz hbw
 have hz_w1 := Blz.lt
 refine (nan_p1 _).mono ?_
 rintro e w2 ⟨rfl, hb⟩
 replace hs := bStep hs hb
 replace Blz := Blz.mono hb
 clear hb
 go_wp2_with fail
 refine (inf_p1 _).mono ?_
 rintro e w3 ⟨rfl, hb⟩
 replace hs := bStep hs hb
 replace Blz := Blz.mono hb
 clear hb
 go_wp2_with fail
 refine (HC1.out _).mono ?_
 rintro e w4 ⟨_, rfl, hm, hb⟩
 obtain ⟨ahm, nhm, chm, rfl⟩ := hm.shape
 replace hs := bStep hs hb
 replace Blz := Blz.mono hb
 clear hb
 go_wp2_with fail
 refine (HC2.out _).mono ?_
 rintro e w5 ⟨_, rfl, ho, hb⟩
 obtain ⟨aho, nho, cho, rfl⟩ := ho.shape
 replace hs := bStep hs hb
 replace Blz := Blz.mono hb
 replace hm := hm.mono hb
 clear hb
 go_wp2_with fail
 refine (HC3.out _ _ ho).mono ?_
 rintro e w6 ⟨_, rfl, hl, hb⟩
 obtain ⟨ahl, nhl, chl, rfl⟩ := hl.shape
 replace hs := bStep hs hb
 replace Blz := Blz.mono hb
 replace hm := hm.mono hb
 replace ho := ho.mono hb
 clear hb
 have hR := p_reduced_calls false _ _ 4503599627370496 (1 * 2 ^ 52) 20 _ hm hl (Nat.mul_pos (by decide) (Nat.two_pow_pos _)) (by decide) (by decide +kernel) (by decide +kernel)
 go_wp2_with fail
 refine hR.mono ?_
 clear hR
 rintro e w7 ⟨_, rfl, hq, hb⟩
 obtain ⟨shq, ahq, nhq, chq, Ahq, Nhq, Chq, rfl⟩ := hq.shape
 replace hs := bStep hs hb
 replace Blz := Blz.mono hb
 replace hm := hm.mono hb
 replace ho := ho.mono hb
 replace hl := hl.mono hb
 clear hb
 replace hq := hq.of_eq (show mkQ false 4503599627370496 (1 * 2 ^ 52) = 1 by decide +kernel)
 have B0 := Blz.a0
 have B1 := Blz.a1
 have B2 := Blz.a2
 have fz := Blz.free
 have Lz := Blz.lt
 go_wp2
 refine bodyPost.abs ?_
 intro w8 hW
 have hsz := hs.size
 have lz := Blz.lt
 have hbw : Below w.heap.size w7 w8 := by rw [hW]; exact (Below.setCell (Below.setCell (Below.setCell (Below.refl w.heap.size w7) (by first | exact Nat.le_refl _ | omega | (have := hs.size; simp; done) | (have := hs.size; simp; omega)) _) (by first | exact Nat.le_refl _ | omega | (have := hs.size; simp; done) | (have := hs.size; simp; omega)) _) (by first | exact Nat.le_refl _ | omega | (have := hs.size; simp; done) | (have := hs.size; simp; omega)) _)
 have hs1 : Below w.heap.size w w8 := hs.trans hbw
 have hk : KeepD w7 w8 := by rw [hW]; exact (KeepD.set (KeepD.set (KeepD.set (KeepD.refl _) Blz.ty (by decide) _ _) (TyB.store Blz.ty _ _) (by decide) _ _) (TyB.store (TyB.store Blz.ty _ _) _ _) (by decide) _ _)
 have Bl1z : Bx w8 (w.heap.size) 32 #[.bool shq, .slice ahq nhq chq, .slice Ahq Nhq Chq] := by rw [hW]; exact (Bx.set (Bx.set (Bx.set Blz 0 _ rfl) 1 _ rfl) 2 _ rfl)
 replace hs := hs1
 clear hs1
 replace Blz := Bl1z
 clear Bl1z
 replace hq := hq.keep hk
 clear hW hk hsz hbw lz
 exact ret_PE rfl rfl rfl rfl Blz hq hs
theorem float_m3 (w : World) : Calls Tryz.prog 16 #[.float .f64 13837309855095848960] w (RetPE w (-3) 0) := by
 have hs := Below.refl w.heap.size w
 have hb1 := run_bits
 have H1 : bits BinOp.and IntKind.u64 13837309855095848960 4503599627370495 = 2251799813685248 := by kernel_rfl
 have H2 : bits BinOp.and IntKind.u64 3072 2047 = 1024 := by kernel_rfl
 have H3 : bits BinOp.or IntKind.u64 2251799813685248 4503599627370496 = 6755399441055744 := by kernel_rfl
 have c1 : ∀ w : World, Calls Tryz.prog 77 #[.int .u64 6755399441055744] w (RetN .u64 18446744073709551616 w 6755399441055744) := fun w => ln_word 6755399441055744 w (by decide)
 have c2 : ∀ w : World, Calls Tryz.prog 77 #[.int .u64 1] w (RetN .u64 18446744073709551616 w 1) := fun w => ln_word 1 w (by decide)
 have c3 : ∀ (v : Value) (w : World), NatV .u64 18446744073709551616 w v 1 → Calls Tryz.prog 78 #[v, .int .i64 51] w (RetN .u64 18446744073709551616 w (1 * 2 ^ 51)) := fun v w h => ln_left (k := 51) h (K := 1) (by decide) (by decide) (by decide)
 have HC1 := Lib.hid c1
 have HC2 := Lib.hid c2
 have HC3 := Lib.hid c3
 clear c1 c2 c3
 go_enter Tryz.func16, Tryz.ntmps16
 go_wp2_with fail
 refine Calls.abs ?_
 intro w1 hW
 have hsz := hs.size
 have hbw : Below w.heap.size w w1 := by rw [hW]; exact (Below.alloc (Below.refl w.heap.size w) (by first | exact hs.size | (have := hs.size; simp; done) | (have := hs.size; simp; omega)) _)
 have hs1 : Below w.heap.size w w1 := hs.trans hbw
 have hk : KeepD w w1 := by rw [hW]; exact ((KeepD.refl _).alloc _)
 have Bl1z : Bx w1 (w.heap.size) 32 #[.bool false, .slice none 0 0, .slice none 0 0] := by rw [hW]; exact (Bx.new' _ _ _ _ (by first | rfl | (simp; done)))
 replace hs := hs1
 clear hs1
 have Blz := Bl1z
 clear Bl1z
 clear hW hk hsz hbw
 have hz_w1 := Blz.lt
 refine (nan_m3 _).mono ?_
 rintro e w2 ⟨rfl, hb⟩
 replace hs := bStep hs hb
 replace Blz := Blz.mono hb
 clear hb
 go_wp2_with fail
 refine (inf_m3 _).mono ?_
 rintro e w3 ⟨rfl, hb⟩
 replace hs := bStep hs hb
 replace Blz := Blz.mono hb
 clear hb
 go_wp2_with fail
 refine (HC1.out _).mono ?_
 rintro e w4 ⟨_, rfl, hm, hb⟩
 obtain ⟨ahm, nhm, chm, rfl⟩ := hm.shape
 replace hs := bStep hs hb
 replace Blz := Blz.mono hb
 clear hb
 go_wp2_with fail
 refine (HC2.out _).mono ?_
 rintro e w5 ⟨_, rfl, ho, hb⟩
 obtain ⟨aho, nho, cho, rfl⟩ := ho.shape
 replace hs := bStep hs hb
 replace Blz := Blz.mono hb
 replace hm := hm.mono hb
 clear hb
 go_wp2_with fail
 refine (HC3.out _ _ ho).mono ?_
 rintro e w6 ⟨_, rfl, hl, hb⟩
 obtain ⟨ahl, nhl, chl, rfl⟩ := hl.shape
 replace hs := bStep hs hb
 replace Blz := Blz.mono hb
 replace hm := hm.mono hb
 replace ho := ho.mono hb
 clear hb
 have hR := p_reduced_calls true _ _ 6755399441055744 (1 * 2 ^ 51) 20 _ hm hl (Nat.mul_pos (by decide) (Nat.two_pow_pos _)) (by decide) (by decide +kernel) (by decide +kernel)
 go_wp2_with fail
 refine hR.mono ?_
 clear hR
 rintro e w7 ⟨_, rfl, hq, hb⟩
 obtain ⟨shq, ahq, nhq, chq, Ahq, Nhq, Chq, rfl⟩ := hq.shape
 replace hs := bStep hs hb
 replace Blz := Blz.mono hb
 replace hm := hm.mono hb
 replace ho := ho.mono hb
 replace hl := hl.mono hb
 clear hb
 replace hq := hq.of_eq (show mkQ true 6755399441055744 (1 * 2 ^ 51) = -3 by decide +kernel)
 have B0 := Blz.a0
 have B1 := Blz.a1
 have B2 := Blz.a2
 have fz := Blz.free
 have Lz := Blz.lt
 go_wp2
 refine bodyPost.abs ?_
 intro w8 hW
 have hsz := hs.size
 have lz := Blz.lt
 have hbw : Below w.heap.size w7 w8 := by rw [hW]; exact (Below.setCell (Below.setCell (Below.setCell (Below.refl w.heap.size w7) (by first | exact Nat.le_refl _ | omega | (have := hs.size; simp; done) | (have := hs.size; simp; omega)) _) (by first | exact Nat.le_refl _ | omega | (have := hs.size; simp; done) | (have := hs.size; simp; omega)) _) (by first | exact Nat.le_refl _ | omega | (have := hs.size; simp; done) | (have := hs.size; simp; omega)) _)
 have hs1 : Below w.heap.size w w8 := hs.trans hbw
 have hk : KeepD w7 w8 := by rw [hW]; exact (KeepD.set (KeepD.set (KeepD.set (KeepD.refl _) Blz.ty (by decide) _ _) (TyB.store Blz.ty _ _) (by decide) _ _) (TyB.store (TyB.store Blz.ty _ _) _ _) (by decide) _ _)
 have Bl1z : Bx w8 (w.heap.size) 32 #[.bool shq, .slice ahq nhq chq, .slice Ahq Nhq Chq] := by rw [hW]; exact (Bx.set (Bx.set (Bx.set Blz 0 _ rfl) 1 _ rfl) 2 _ rfl)
 replace hs := hs1
 clear hs1
 replace Blz := Bl1z
 clear Bl1z
 replace hq := hq.keep hk
 clear hW hk hsz hbw lz
 exact ret_PE rfl rfl rfl rfl Blz hq hs
theorem float_p3 (w : World) : Calls Tryz.prog 16 #[.float .f64 4613937818241073152] w (RetPE w (3) 0) := by
 have hs := Below.refl w.heap.size w
 have hb1 := run_bits
 have H1 : bits BinOp.and IntKind.u64 4613937818241073152 4503599627370495 = 2251799813685248 := by kernel_rfl
 have H2 : bits BinOp.and IntKind.u64 1024 2047 = 1024 := by kernel_rfl
 have H3 : bits BinOp.or IntKind.u64 2251799813685248 4503599627370496 = 6755399441055744 := by kernel_rfl
 have c1 : ∀ w : World, Calls Tryz.prog 77 #[.int .u64 6755399441055744] w (RetN .u64 18446744073709551616 w 6755399441055744) := fun w => ln_word 6755399441055744 w (by decide)
 have c2 : ∀ w : World, Calls Tryz.prog 77 #[.int .u64 1] w (RetN .u64 18446744073709551616 w 1) := fun w => ln_word 1 w (by decide)
 have c3 : ∀ (v : Value) (w : World), NatV .u64 18446744073709551616 w v 1 → Calls Tryz.prog 78 #[v, .int .i64 51] w (RetN .u64 18446744073709551616 w (1 * 2 ^ 51)) := fun v w h => ln_left (k := 51) h (K := 1) (by decide) (by decide) (by decide)
 have HC1 := Lib.hid c1
 have HC2 := Lib.hid c2
 have HC3 := Lib.hid c3
 clear c1 c2 c3
 go_enter Tryz.func16, Tryz.ntmps16
 go_wp2_with fail
 refine Calls.abs ?_
 intro w1 hW
 have hsz := hs.size
 have hbw : Below w.heap.size w w1 := by rw [hW]; exact (Below.alloc (Below.refl w.heap.size w) (by first | exact hs.size | (have := hs.size; simp; done) | (have := hs.size; simp; omega)) _)
 have hs1 : Below w.heap.size w w1 := hs.trans hbw
 have hk : KeepD w w1 := by rw [hW]; exact ((KeepD.refl _).alloc _)
 have Bl1z : Bx w1 (w.heap.size) 32 #[.bool false, .slice none 0 0, .slice none 0 0] := by rw [hW]; exact (Bx.new' _ _ _ _ (by first | rfl | (simp; done)))
 replace hs := hs1
 clear hs1
 have Blz := Bl1z
 clear Bl1z
 clear hW hk hsz hbw
 have hz_w1 := Blz.lt
 refine (nan_p3 _).mono ?_
 rintro e w2 ⟨rfl, hb⟩
 replace hs := bStep hs hb
 replace Blz := Blz.mono hb
 clear hb
 go_wp2_with fail
 refine (inf_p3 _).mono ?_
 rintro e w3 ⟨rfl, hb⟩
 replace hs := bStep hs hb
 replace Blz := Blz.mono hb
 clear hb
 go_wp2_with fail
 refine (HC1.out _).mono ?_
 rintro e w4 ⟨_, rfl, hm, hb⟩
 obtain ⟨ahm, nhm, chm, rfl⟩ := hm.shape
 replace hs := bStep hs hb
 replace Blz := Blz.mono hb
 clear hb
 go_wp2_with fail
 refine (HC2.out _).mono ?_
 rintro e w5 ⟨_, rfl, ho, hb⟩
 obtain ⟨aho, nho, cho, rfl⟩ := ho.shape
 replace hs := bStep hs hb
 replace Blz := Blz.mono hb
 replace hm := hm.mono hb
 clear hb
 go_wp2_with fail
 refine (HC3.out _ _ ho).mono ?_
 rintro e w6 ⟨_, rfl, hl, hb⟩
 obtain ⟨ahl, nhl, chl, rfl⟩ := hl.shape
 replace hs := bStep hs hb
 replace Blz := Blz.mono hb
 replace hm := hm.mono hb
 replace ho := ho.mono hb
 clear hb
 have hR := p_reduced_calls false _ _ 6755399441055744 (1 * 2 ^ 51) 20 _ hm hl (Nat.mul_pos (by decide) (Nat.two_pow_pos _)) (by decide) (by decide +kernel) (by decide +kernel)
 go_wp2_with fail
 refine hR.mono ?_
 clear hR
 rintro e w7 ⟨_, rfl, hq, hb⟩
 obtain ⟨shq, ahq, nhq, chq, Ahq, Nhq, Chq, rfl⟩ := hq.shape
 replace hs := bStep hs hb
 replace Blz := Blz.mono hb
 replace hm := hm.mono hb
 replace ho := ho.mono hb
 replace hl := hl.mono hb
 clear hb
 replace hq := hq.of_eq (show mkQ false 6755399441055744 (1 * 2 ^ 51) = 3 by decide +kernel)
 have B0 := Blz.a0
 have B1 := Blz.a1
 have B2 := Blz.a2
 have fz := Blz.free
 have Lz := Blz.lt
 go_wp2
 refine bodyPost.abs ?_
 intro w8 hW
 have hsz := hs.size
 have lz := Blz.lt
 have hbw : Below w.heap.size w7 w8 := by rw [hW]; exact (Below.setCell (Below.setCell (Below.setCell (Below.refl w.heap.size w7) (by first | exact Nat.le_refl _ | omega | (have := hs.size; simp; done) | (have := hs.size; simp; omega)) _) (by first | exact Nat.le_refl _ | omega | (have := hs.size; simp; done) | (have := hs.size; simp; omega)) _) (by first | exact Nat.le_refl _ | omega | (have := hs.size; simp; done) | (have := hs.size; simp; omega)) _)
 have hs1 : Below w.heap.size w w8 := hs.trans hbw
 have hk : KeepD w7 w8 := by rw [hW]; exact (KeepD.set (KeepD.set (KeepD.set (KeepD.refl _) Blz.ty (by decide) _ _) (TyB.store Blz.ty _ _) (by decide) _ _) (TyB.store (TyB.store Blz.ty _ _) _ _) (by decide) _ _)
 have Bl1z : Bx w8 (w.heap.size) 32 #[.bool shq, .slice ahq nhq chq, .slice Ahq Nhq Chq] := by rw [hW]; exact (Bx.set (Bx.set (Bx.set Blz 0 _ rfl) 1 _ rfl) 2 _ rfl)
 replace hs := hs1
 clear hs1
 replace Blz := Bl1z
 clear Bl1z
 replace hq := hq.keep hk
 clear hW hk hsz hbw lz
 exact ret_PE rfl rfl rfl rfl Blz hq hs
theorem float_p2 (w : World) : Calls Tryz.prog 16 #[.float .f64 4611686018427387904] w (RetPE w (2) 0) := by
 have hs := Below.refl w.heap.size w
 have hb1 := run_bits
 have H1 : bits BinOp.and IntKind.u64 4611686018427387904 4503599627370495 = 0 := by kernel_rfl
 have H2 : bits BinOp.and IntKind.u64 1024 2047 = 1024 := by kernel_rfl
 have H3 : bits BinOp.or IntKind.u64 0 4503599627370496 = 4503599627370496 := by kernel_rfl
 have c1 : ∀ w : World, Calls Tryz.prog 77 #[.int .u64 4503599627370496] w (RetN .u64 18446744073709551616 w 4503599627370496) := fun w => ln_word 4503599627370496 w (by decide)
 have c2 : ∀ w : World, Calls Tryz.prog 77 #[.int .u64 1] w (RetN .u64 18446744073709551616 w 1) := fun w => ln_word 1 w (by decide)
 have c3 : ∀ (v : Value) (w : World), NatV .u64 18446744073709551616 w v 1 → Calls Tryz.prog 78 #[v, .int .i64 51] w (RetN .u64 18446744073709551616 w (1 * 2 ^ 51)) := fun v w h => ln_left (k := 51) h (K := 1) (by decide) (by decide) (by decide)
 have HC1 := Lib.hid c1
 have HC2 := Lib.hid c2
 have HC3 := Lib.hid c3
 clear c1 c2 c3
 go_enter Tryz.func16, Tryz.ntmps16
 go_wp2_with fail
 refine Calls.abs ?_
 intro w1 hW
 have hsz := hs.size
 have hbw : Below w.heap.size w w1 := by rw [hW]; exact (Below.alloc (Below.refl w.heap.size w) (by first | exact hs.size | (have := hs.size; simp; done) | (have := hs.size; simp; omega)) _)
 have hs1 : Below w.heap.size w w1 := hs.trans hbw
 have hk : KeepD w w1 := by rw [hW]; exact ((KeepD.refl _).alloc _)
 have Bl1z : Bx w1 (w.heap.size) 32 #[.bool false, .slice none 0 0, .slice none 0 0] := by rw [hW]; exact (Bx.new' _ _ _ _ (by first | rfl | (simp; done)))
 replace hs := hs1
 clear hs1
 have Blz := Bl1z
 clear Bl1z
 clear hW hk hsz hbw
 have hz_w1 := Blz.lt
 refine (nan_p2 _).mono ?_
 rintro e w2 ⟨rfl, hb⟩
 replace hs := bStep hs hb
 replace Blz := Blz.mono hb
 clear hb
 go_wp2_with fail
 refine (inf_p2 _).mono ?_
 rintro e w3 ⟨rfl, hb⟩
 replace hs := bStep hs hb
 replace Blz := Blz.mono hb
 clear hb
 go_wp2_with fail
 refine (HC1.out _).mono ?_
 rintro e w4 ⟨_, rfl, hm, hb⟩
 obtain ⟨ahm, nhm, chm, rfl⟩ := hm.shape
 replace hs := bStep hs hb
 replace Blz := Blz.mono hb
 clear hb
 go_wp2_with fail
 refine (HC2.out _).mono ?_
 rintro e w5 ⟨_, rfl, ho, hb⟩
 obtain ⟨aho, nho, cho, rfl⟩ := ho.shape
 replace hs := bStep hs hb
 replace Blz := Blz.mono hb
 replace hm := hm.mono hb
 clear hb
 go_wp2_with fail
 refine (HC3.out _ _ ho).mono ?_
 rintro e w6 ⟨_, rfl, hl, hb⟩
 obtain ⟨ahl, nhl, chl, rfl⟩ := hl.shape
 replace hs := bStep hs hb
 replace Blz := Blz.mono hb
 replace hm := hm.mono hb
 replace ho := ho.mono hb
 clear hb
 have hR := p_reduced_calls false _ _ 4503599627370496 (1 * 2 ^ 51) 20 _ hm hl (Nat.mul_pos (by decide) (Nat.two_pow_pos _)) (by decide) (by decide +kernel) (by decide +kernel)
 go_wp2_with fail
 refine hR.mono ?_
 clear hR
 rintro e w7 ⟨_, rfl, hq, hb⟩
 obtain ⟨shq, ahq, nhq, chq, Ahq, Nhq, Chq, rfl⟩ := hq.shape
 replace hs := bStep hs hb
 replace Blz := Blz.mono hb
 replace hm := hm.mono hb
 replace ho := ho.mono hb
 replace hl := hl.mono hb
 clear hb
 replace hq := hq.of_eq (show mkQ false 4503599627370496 (1 * 2 ^ 51) = 2 by decide +kernel)
 have B0 := Blz.a0
 have B1 := Blz.a1
 have B2 := Blz.a2
 have fz := Blz.free
 have Lz := Blz.lt
 go_wp2
 refine bodyPost.abs ?_
 intro w8 hW
 have hsz := hs.size
 have lz := Blz.lt
 have hbw : Below w.heap.size w7 w8 := by rw [hW]; exact (Below.setCell (Below.setCell (Below.setCell (Below.refl w.heap.size w7) (by first | exact Nat.le_refl _ | omega | (have := hs.size; simp; done) | (have := hs.size; simp; omega)) _) (by first | exact Nat.le_refl _ | omega | (have := hs.size; simp; done) | (have := hs.size; simp; omega)) _) (by first | exact Nat.le_refl _ | omega | (have := hs.size; simp; done) | (have := hs.size; simp; omega)) _)
 have hs1 : Below w.heap.size w w8 := hs.trans hbw
 have hk : KeepD w7 w8 := by rw [hW]; exact (KeepD.set (KeepD.set (KeepD.set (KeepD.refl _) Blz.ty (by decide) _ _) (TyB.store Blz.ty _ _) (by decide) _ _) (TyB.store (TyB.store Blz.ty _ _) _ _) (by decide) _ _)
 have Bl1z : Bx w8 (w.heap.size) 32 #[.bool shq, .slice ahq nhq chq, .slice Ahq Nhq Chq] := by rw [hW]; exact (Bx.set (Bx.set (Bx.set Blz 0 _ rfl) 1 _ rfl) 2 _ rfl)
 replace hs := hs1
 clear hs1
 replace Blz := Bl1z
 clear Bl1z
 replace hq := hq.keep hk
 clear hW hk hsz hbw lz
 exact ret_PE rfl rfl rfl rfl Blz hq hs
end Go.Proofs.YtkfekkhhfpkfaaaGreat
namespace Go.Proofs.YtkfekkhhfpkfaaaGreat
open Go.RowKit Dg
attribute [local go_sem ↓] Go.wp_at_zero Go.wp_at_succ
theorem pow64 (k K : Nat) (h : k < 64 * K) : 2 ^ k < 18446744073709551616 ^ K := by
 rw [show (18446744073709551616 : Nat) = 2 ^ 64 from rfl, ← Nat.pow_mul]; exact Nat.pow_lt_pow_right (by decide) h
theorem left_one (k : Nat) (hk : k < 1280) : ∃ X, 0 < X ∧ X < 18446744073709551616 ^ 20 ∧ ∀ (v : Value) (w : World), NatV .u64 18446744073709551616 w v 1 → Calls Tryz.prog 78 #[v, .int .i64 k] w (RetN .u64 18446744073709551616 w X) :=
 ⟨_, Nat.mul_pos (by decide) (Nat.two_pow_pos k), by rw [Nat.one_mul]; exact pow64 k 20 (by omega), fun v w h => ln_left (k := k) h (K := 1) (by decide) (by decide) (by omega)⟩
theorem float_z (w : World) : Calls Tryz.prog 16 #[.float .f64 0] w (RetPE w 0 0) := by
 have hs := Below.refl w.heap.size w
 have hb1 := run_bits
 have H1 : bits BinOp.and IntKind.u64 0 4503599627370495 = 0 := by kernel_rfl
 have H2 : bits BinOp.and IntKind.u64 0 2047 = 0 := by kernel_rfl
 have c1 : ∀ w : World, Calls Tryz.prog 77 #[.int .u64 0] w (RetN .u64 18446744073709551616 w 0) := fun w => ln_word 0 w (by decide)
 have c2 : ∀ w : World, Calls Tryz.prog 77 #[.int .u64 1] w (RetN .u64 18446744073709551616 w 1) := fun w => ln_word 1 w (by decide)
 obtain ⟨X, x1, x2, c3⟩ : ∃ X, 0 < X ∧ X < 18446744073709551616 ^ 20 ∧ ∀ (v : Value) (w : World), NatV .u64 18446744073709551616 w v 1 → Calls Tryz.prog 78 #[v, .int .i64 1074] w (RetN .u64 18446744073709551616 w X) :=
  left_one 1074 (by decide)
 have HC1 := Lib.hid c1
 have HC2 := Lib.hid c2
 have HC3 := Lib.hid c3
 have HX1 := Lib.hid x1
 have HX2 := Lib.hid x2
 clear c1 c2 c3 x1 x2
 go_enter Tryz.func16, Tryz.ntmps16
 go_wp2_with fail
 refine Calls.abs ?_
 intro w1 hW
 have hsz := hs.size
 have hbw : Below w.heap.size w w1 := by rw [hW]; exact (Below.alloc (Below.refl w.heap.size w) (by first | exact hs.size | (have := hs.size; simp; done) | (have := hs.size; simp; omega)) _)
 have hs1 : Below w.heap.size w w1 := hs.trans hbw
 have hk : KeepD w w1 := by rw [hW]; exact ((KeepD.refl _).alloc _)
 have Bl1z : Bx w1 (w.heap.size) 32 #[.bool false, .slice none 0 0, .slice none 0 0] := by rw [hW]; exact (Bx.new' _ _ _ _ (by first | rfl | (simp; done)))
 replace hs := hs1
 clear hs1
 have Blz := Bl1z
 clear Bl1z
 clear hW hk hsz hbw
 have hz_w1 := Blz.lt
 refine (nan_z _).mono ?_
 rintro e w2 ⟨rfl, hb⟩
 replace hs := bStep hs hb
 replace Blz := Blz.mono hb
 clear hb
 go_wp2_with fail
 refine (inf_z _).mono ?_
 rintro e w3 ⟨rfl, hb⟩
 replace hs := bStep hs hb
 replace Blz := Blz.mono hb
 clear hb
 go_wp2_with fail
 refine (HC1.out _).mono ?_
 rintro e w4 ⟨_, rfl, hm, hb⟩
 obtain ⟨ahm, nhm, chm, rfl⟩ := hm.shape
 replace hs := bStep hs hb
 replace Blz := Blz.mono hb
 clear hb
 go_wp2_with fail
 refine (HC2.out _).mono ?_
 rintro e w5 ⟨_, rfl, ho, hb⟩
 obtain ⟨aho, nho, cho, rfl⟩ := ho.shape
 replace hs := bStep hs hb
 replace Blz := Blz.mono hb
 replace hm := hm.mono hb
 clear hb
 go_wp2_with fail
 refine (HC3.out _ _ ho).mono ?_
 rintro e w6 ⟨_, rfl, hl, hb⟩
 obtain ⟨ahl, nhl, chl, rfl⟩ := hl.shape
 replace hs := bStep hs hb
 replace Blz := Blz.mono hb
 replace hm := hm.mono hb
 replace ho := ho.mono hb
 clear hb
 have hR := p_reduced_calls false _ _ 0 X 20 _ hm hl HX1.out (by decide) (by decide +kernel) HX2.out
 go_wp2_with fail
 refine hR.mono ?_
 clear hR
 rintro e w7 ⟨_, rfl, hq, hb⟩
 obtain ⟨shq, ahq, nhq, chq, Ahq, Nhq, Chq, rfl⟩ := hq.shape
 replace hs := bStep hs hb
 replace Blz := Blz.mono hb
 replace hm := hm.mono hb
 replace ho := ho.mono hb
 replace hl := hl.mono hb
 clear hb
 replace hq := hq.of_eq (show mkQ false 0 X = 0 by simp [mkQ])
 have B0 := Blz.a0
 have B1 := Blz.a1
 have B2 := Blz.a2
 have fz := Blz.free
 have Lz := Blz.lt
 go_wp2
 refine bodyPost.abs ?_
 intro w8 hW
 have hsz := hs.size
 have lz := Blz.lt
 have hbw : Below w.heap.size w7 w8 := by rw [hW]; exact (Below.setCell (Below.setCell (Below.setCell (Below.refl w.heap.size w7) (by first | exact Nat.le_refl _ | omega | (have := hs.size; simp; done) | (have := hs.size; simp; omega)) _) (by first | exact Nat.le_refl _ | omega | (have := hs.size; simp; done) | (have := hs.size; simp; omega)) _) (by first | exact Nat.le_refl _ | omega | (have := hs.size; simp; done) | (have := hs.size; simp; omega)) _)
 have hs1 : Below w.heap.size w w8 := hs.trans hbw
 have hk : KeepD w7 w8 := by rw [hW]; exact (KeepD.set (KeepD.set (KeepD.set (KeepD.refl _) Blz.ty (by decide) _ _) (TyB.store Blz.ty _ _) (by decide) _ _) (TyB.store (TyB.store Blz.ty _ _) _ _) (by decide) _ _)
 have Bl1z : Bx w8 (w.heap.size) 32 #[.bool shq, .slice ahq nhq chq, .slice Ahq Nhq Chq] := by rw [hW]; exact (Bx.set (Bx.set (Bx.set Blz 0 _ rfl) 1 _ rfl) 2 _ rfl)
 replace hs := hs1
 clear hs1
 replace Blz := Bl1z
 clear Bl1z
 replace hq := hq.keep hk
 clear hW hk hsz hbw lz
 exact ret_PE rfl rfl rfl rfl Blz hq hs
end Go.Proofs.YtkfekkhhfpkfaaaGreat
