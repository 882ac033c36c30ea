/-
  The reference's powers of two, and its Float at any word of float64.
-/
import Derived.Test.YtkfekkhhfpkfaaaGreatPkFltQ
import Derived.Test.YtkfekkhhfpkfaaaGreatPkRefBQ
set_option linter.unusedSimpArgs false
set_option linter.unusedVariables false
set_option maxRecDepth 100000
set_option maxHeartbeats 4000000
namespace Go.Proofs.YtkfekkhhfpkfaaaGreat
open Go.RowKit Dg
attribute [local go_sem ↓] Go.wp_at_zero Go.wp_at_succ
theorem rn_Shifted1 {v : Value} {k : Nat} {w : World} (h : NatV .u32 4294967296 w v 1) (hk : k ≤ 1100) : Calls Tryz.prog 176 #[v, .int .i64 (k : Int)] w (RetN .u32 4294967296 w (2 ^ k)) := by
 obtain ⟨ao, n, c, l, rfl, hs, hc, hv, hn⟩ := h.sz (K := 1) (by decide)
 have := (r_Shifted_calls ao n c l (k : Int) w hs hc.1 (by omega) (by omega) (by omega)).mono fun e w' h => h.n
 rwa [hv, Int.toNat_natCast, Nat.one_mul] at this
theorem rv_up {w : World} {v1 v2 : Value} {k : Nat} (h1 : NatV .u32 4294967296 w v1 (2 ^ k)) (h2 : NatV .u32 4294967296 w v2 1) : RV w (.agg #[.bool false, v1, v2]) (mkQ false (2 ^ k) 1) := by
 have h0 : (2 : Nat) ^ k ≠ 0 := Nat.ne_of_gt (Nat.two_pow_pos k)
 refine ⟨v1, v2, 1, by rw [mkQ_ng false _ 1 (by decide) h0], by rw [mkQ_natAbs false _ 1 (by decide), Nat.gcd_one_right, Nat.div_one]; exact h1, h2, .inl (by rw [mkQ_den false _ 1 (by decide), Nat.gcd_one_right])⟩
theorem rv_down {w : World} {v1 v2 : Value} {k : Nat} (h1 : NatV .u32 4294967296 w v1 1) (h2 : NatV .u32 4294967296 w v2 (2 ^ k)) : RV w (.agg #[.bool false, v1, v2]) (mkQ false 1 (2 ^ k)) := by
 have h0 : (2 : Nat) ^ k ≠ 0 := Nat.ne_of_gt (Nat.two_pow_pos k)
 refine ⟨v1, v2, 2 ^ k, by rw [mkQ_ng false 1 _ h0 (by decide)], by rw [mkQ_natAbs false 1 _ h0, Nat.gcd_one_left]; exact h1, h2, .inl (by rw [mkQ_den false 1 _ h0, Nat.gcd_one_left, Nat.div_one])⟩
theorem r_two_up {k : Nat} (h1 : 1 ≤ k) (hk : k ≤ 1100) (w : World) : Calls Tryz.prog 152 #[.int .i64 (k : Int)] w (RetQ w (mkQ false (2 ^ k) 1)) := by
 have hs := Below.refl w.heap.size w
 have c1 : ∀ w : World, Calls Tryz.prog 123 #[.int .u64 1] w (RetN .u32 4294967296 w 1) := fun w => rn_Nat 1 w (by decide)
 have Ca : ((k : Int) < (0 : Int)) = False := eq_false (by omega)
 go_enter Tryz.func152, Tryz.ntmps152
 go_wp2_with fail
 refine Calls.abs ?_
 intro w1 hW
 have B5 := hs.size
 have B2 : Below w.heap.size w w1 := by rw [hW]; exact (Below.alloc (Below.refl w.heap.size w) (by first | exact hs.size | (have := hs.size; simp; done) | (have := hs.size; simp; omega)) _)
 have B3 : Below w.heap.size w w1 := hs.trans B2
 have hk : KeepD w w1 := by rw [hW]; exact ((KeepD.refl _).alloc _)
 have B1 : Bx w1 (w.heap.size) 38 #[.bool false, .slice none 0 0, .slice none 0 0] := by rw [hW]; exact (Bx.new' _ _ _ _ (by first | rfl | (simp; done)))
 replace hs := B3
 clear B3
 have B0 := B1
 clear B1
 clear hW hk B5 B2
 have Bp := B0.lt
 refine (c1 _).mono ?_
 rintro e w2 ⟨_, rfl, h5, hb⟩
 obtain ⟨C3, C5, C4, rfl⟩ := h5.shape
 replace hs := bStep hs hb
 replace B0 := B0.mono hb
 clear hb
 go_wp2_with fail
 refine (rn_Shifted1 h5 hk).mono ?_
 rintro e w3 ⟨_, rfl, h9, hb⟩
 obtain ⟨Bq, Bs, Br, rfl⟩ := h9.shape
 replace hs := bStep hs hb
 replace B0 := B0.mono hb
 replace h5 := h5.mono hb
 clear hb
 go_wp2_with fail
 refine (c1 _).mono ?_
 rintro e w4 ⟨_, rfl, h6, hb⟩
 obtain ⟨Bt, Bv, Bu, rfl⟩ := h6.shape
 replace hs := bStep hs hb
 replace B0 := B0.mono hb
 replace h5 := h5.mono hb
 replace h9 := h9.mono hb
 clear hb
 have hq := rv_up h9 h6
 have B7 := B0.a0
 have B8 := B0.a1
 have B9 := B0.a2
 have fz := B0.free
 have Lz := B0.lt
 go_wp2
 refine bodyPost.abs ?_
 intro w5 hW
 have B5 := hs.size
 have lz := B0.lt
 have B2 : Below w.heap.size w4 w5 := by rw [hW]; exact (Below.setCell (Below.setCell (Below.setCell (Below.refl w.heap.size w4) (by first | exact Nat.le_refl _ | omega | (have := hs.size; simp; done) | (have := hs.size; simp; omega)) _) (by first | exact Nat.le_refl _ | omega | (have := hs.size; simp; done) | (have := hs.size; simp; omega)) _) (by first | exact Nat.le_refl _ | omega | (have := hs.size; simp; done) | (have := hs.size; simp; omega)) _)
 have B3 : Below w.heap.size w w5 := hs.trans B2
 have hk : KeepD w4 w5 := by rw [hW]; exact (KeepD.set (KeepD.set (KeepD.set (KeepD.refl _) B0.ty (by decide) _ _) (TyB.store B0.ty _ _) (by decide) _ _) (TyB.store (TyB.store B0.ty _ _) _ _) (by decide) _ _)
 have B1 : Bx w5 (w.heap.size) 38 #[.bool false, .slice Bq Bs Br, .slice Bt Bv Bu] := by rw [hW]; exact (Bx.set (Bx.set (Bx.set B0 0 _ rfl) 1 _ rfl) 2 _ rfl)
 replace hs := B3
 clear B3
 replace B0 := B1
 clear B1
 replace hq := hq.keep hk
 clear hW hk B5 B2 lz
 have B7 := B0.a0
 have B8 := B0.a1
 have B9 := B0.a2
 exact bodyPost_ret (v := .agg #[.bool false, .slice Bq Bs Br, .slice Bt Bv Bu]) (by simp [results, Tryz.results152, go_sem, B7, B8, B9]) rfl ⟨_, rfl, hq, hs⟩
theorem r_two_down {k : Nat} (h1 : 1 ≤ k) (hk : k ≤ 1100) (w : World) : Calls Tryz.prog 152 #[.int .i64 (-(k : Int))] w (RetQ w (mkQ false 1 (2 ^ k))) := by
 have hs := Below.refl w.heap.size w
 have c1 : ∀ w : World, Calls Tryz.prog 123 #[.int .u64 1] w (RetN .u32 4294967296 w 1) := fun w => rn_Nat 1 w (by decide)
 have Ca : ((-(k : Int)) < (0 : Int)) = True := eq_true (by omega)
 go_enter Tryz.func152, Tryz.ntmps152
 go_wp2_with fail
 refine Calls.abs ?_
 intro w1 hW
 have B5 := hs.size
 have B2 : Below w.heap.size w w1 := by rw [hW]; exact (Below.alloc (Below.refl w.heap.size w) (by first | exact hs.size | (have := hs.size; simp; done) | (have := hs.size; simp; omega)) _)
 have B3 : Below w.heap.size w w1 := hs.trans B2
 have hk : KeepD w w1 := by rw [hW]; exact ((KeepD.refl _).alloc _)
 have B1 : Bx w1 (w.heap.size) 38 #[.bool false, .slice none 0 0, .slice none 0 0] := by rw [hW]; exact (Bx.new' _ _ _ _ (by first | rfl | (simp; done)))
 replace hs := B3
 clear B3
 have B0 := B1
 clear B1
 clear hW hk B5 B2
 have Bp := B0.lt
 refine (c1 _).mono ?_
 rintro e w2 ⟨_, rfl, h5, hb⟩
 obtain ⟨C3, C5, C4, rfl⟩ := h5.shape
 replace hs := bStep hs hb
 replace B0 := B0.mono hb
 clear hb
 go_wp2_with fail
 refine (c1 _).mono ?_
 rintro e w3 ⟨_, rfl, h6, hb⟩
 obtain ⟨Bt, Bv, Bu, rfl⟩ := h6.shape
 replace hs := bStep hs hb
 replace B0 := B0.mono hb
 replace h5 := h5.mono hb
 clear hb
 go_wp2_with fail
 refine (rn_Shifted1 h6 hk).mono ?_
 rintro e w4 ⟨_, rfl, h9, hb⟩
 obtain ⟨Bq, Bs, Br, rfl⟩ := h9.shape
 replace hs := bStep hs hb
 replace B0 := B0.mono hb
 replace h5 := h5.mono hb
 replace h6 := h6.mono hb
 clear hb
 have hq := rv_down h5 h9
 have B7 := B0.a0
 have B8 := B0.a1
 have B9 := B0.a2
 have fz := B0.free
 have Lz := B0.lt
 go_wp2
 refine bodyPost.abs ?_
 intro w5 hW
 have B5 := hs.size
 have lz := B0.lt
 have B2 : Below w.heap.size w4 w5 := by rw [hW]; exact (Below.setCell (Below.setCell (Below.setCell (Below.refl w.heap.size w4) (by first | exact Nat.le_refl _ | omega | (have := hs.size; simp; done) | (have := hs.size; simp; omega)) _) (by first | exact Nat.le_refl _ | omega | (have := hs.size; simp; done) | (have := hs.size; simp; omega)) _) (by first | exact Nat.le_refl _ | omega | (have := hs.size; simp; done) | (have := hs.size; simp; omega)) _)
 have B3 : Below w.heap.size w w5 := hs.trans B2
 have hk : KeepD w4 w5 := by rw [hW]; exact (KeepD.set (KeepD.set (KeepD.set (KeepD.refl _) B0.ty (by decide) _ _) (TyB.store B0.ty _ _) (by decide) _ _) (TyB.store (TyB.store B0.ty _ _) _ _) (by decide) _ _)
 have B1 : Bx w5 (w.heap.size) 38 #[.bool false, .slice C3 C5 C4, .slice Bq Bs Br] := by rw [hW]; exact (Bx.set (Bx.set (Bx.set B0 0 _ rfl) 1 _ rfl) 2 _ rfl)
 replace hs := B3
 clear B3
 replace B0 := B1
 clear B1
 replace hq := hq.keep hk
 clear hW hk B5 B2 lz
 have B7 := B0.a0
 have B8 := B0.a1
 have B9 := B0.a2
 exact bodyPost_ret (v := .agg #[.bool false, .slice C3 C5 C4, .slice Bq Bs Br]) (by simp [results, Tryz.results152, go_sem, B7, B8, B9]) rfl ⟨_, rfl, hq, hs⟩
theorem rfloat_lowp {b M N E : Nat} {T : Rat} (H1 : bits BinOp.and IntKind.u64 (b : Int) 4503599627370495 = (M : Int)) (HS : ((b : Int) / 9223372036854775808 == 1) = false) (H2 : bits BinOp.and IntKind.u64 ((b : Int) / 4503599627370496) 2047 = 0) (hM : M < 4503599627370496) (hN : N = M)
  (hT : ∀ w : World, Calls Tryz.prog 152 #[.int .i64 (-1074)] w (RetQ w T)) (sT : SzQ 40 T) (w : World) :
  Calls Tryz.prog 125 #[.float .f64 b] w (RetQE w (mkQ false N 1 * T) 0) := by
 have hs := Below.refl w.heap.size w
 have C9 := run_bits
 have c1 : ∀ w : World, Calls Tryz.prog 123 #[.int .u64 (M : Int)] w (RetN .u32 4294967296 w N) := fun w => by rw [← hN]; exact rn_Nat N w (by omega)
 have c2 : ∀ w : World, Calls Tryz.prog 123 #[.int .u64 1] w (RetN .u32 4294967296 w 1) := fun w => rn_Nat 1 w (by decide)
 have sN : SzQ 40 (mkQ false N 1) := mkQ_size _ _ _ (by decide) _ (Nat.lt_of_lt_of_le (show N < 4294967296 ^ 2 by omega) (Nat.pow_le_pow_right (by decide) (by decide))) (by decide)
 have zN : N < 4294967296 ^ 2 := by omega
 have Bw := Lib.hid c1
 have By := Lib.hid c2
 have HT := Lib.hid hT
 have C0 := Lib.hid sT
 have Bz := Lib.hid sN
 have C1 := Lib.hid zN
 clear c1 c2 hT sT sN zN hN
 go_enter Tryz.func125, Tryz.ntmps125
 go_wp2_with fail
 refine Calls.abs ?_
 intro w1 hW
 have B5 := hs.size
 have B2 : Below w.heap.size w w1 := by rw [hW]; exact (Below.alloc (Below.refl w.heap.size w) (by first | exact hs.size | (have := hs.size; simp; done) | (have := hs.size; simp; omega)) _)
 have B3 : Below w.heap.size w w1 := hs.trans B2
 have hk : KeepD w w1 := by rw [hW]; exact ((KeepD.refl _).alloc _)
 have B1 : Bx w1 (w.heap.size) 38 #[.bool false, .slice none 0 0, .slice none 0 0] := by rw [hW]; exact (Bx.new' _ _ _ _ (by first | rfl | (simp; done)))
 replace hs := B3
 clear B3
 have B0 := B1
 clear B1
 clear hW hk B5 B2
 have Bp := B0.lt
 refine (Bw.out _).mono ?_
 rintro e w2 ⟨_, rfl, hm, hb⟩
 obtain ⟨ahm, nhm, chm, rfl⟩ := hm.shape
 replace hs := bStep hs hb
 replace B0 := B0.mono hb
 clear hb
 go_wp2_with fail
 refine (By.out _).mono ?_
 rintro e w3 ⟨_, rfl, ho, hb⟩
 obtain ⟨aho, nho, cho, rfl⟩ := ho.shape
 replace hs := bStep hs hb
 replace B0 := B0.mono hb
 replace hm := hm.mono hb
 clear hb
 go_wp2_with fail
 have hR := r_made_calls false _ _ N 1 2 _ hm ho (by decide) (by decide) C1.out (by decide)
 refine hR.mono ?_
 clear hR
 rintro e w4 ⟨_, rfl, hx, hb⟩
 obtain ⟨shx, ahx, nhx, chx, Ahx, Nhx, Chx, rfl⟩ := hx.shape
 replace hs := bStep hs hb
 replace B0 := B0.mono hb
 replace hm := hm.mono hb
 replace ho := ho.mono hb
 clear hb
 go_wp2_with fail
 refine (HT.out _).mono ?_
 rintro e w5 ⟨_, rfl, ht, hb⟩
 obtain ⟨sht, aht, nht, cht, Aht, Nht, Cht, rfl⟩ := ht.shape
 replace hs := bStep hs hb
 replace B0 := B0.mono hb
 replace hm := hm.mono hb
 replace ho := ho.mono hb
 replace hx := hx.mono hb
 clear hb
 go_wp2_with fail
 refine (r_Mul_calls _ _ _ _ 40 _ hx ht (by decide) Bz.out C0.out).mono ?_
 rintro e w6 ⟨_, rfl, hp, hb⟩
 obtain ⟨Bh, Be, Bg, Bf, Bb, Bd, Bc, rfl⟩ := hp.shape
 replace hs := bStep hs hb
 replace B0 := B0.mono hb
 replace hm := hm.mono hb
 replace ho := ho.mono hb
 replace hx := hx.mono hb
 replace ht := ht.mono hb
 clear hb
 have B7 := B0.a0
 have B8 := B0.a1
 have B9 := B0.a2
 have fz := B0.free
 have Lz := B0.lt
 go_wp2
 refine bodyPost.abs ?_
 intro w7 hW
 have B5 := hs.size
 have lz := B0.lt
 have B2 : Below w.heap.size w6 w7 := by rw [hW]; exact (Below.alloc (Below.setCell (Below.setCell (Below.setCell (Below.refl w.heap.size w6) (by first | exact Nat.le_refl _ | omega | (have := hs.size; simp; done) | (have := hs.size; simp; omega)) _) (by first | exact Nat.le_refl _ | omega | (have := hs.size; simp; done) | (have := hs.size; simp; omega)) _) (by first | exact Nat.le_refl _ | omega | (have := hs.size; simp; done) | (have := hs.size; simp; omega)) _) (by first | exact hs.size | (have := hs.size; simp; done) | (have := hs.size; simp; omega)) _)
 have B3 : Below w.heap.size w w7 := hs.trans B2
 have hk : KeepD w6 w7 := by rw [hW]; exact ((KeepD.set (KeepD.set (KeepD.set (KeepD.refl _) B0.ty (by decide) _ _) (TyB.store B0.ty _ _) (by decide) _ _) (TyB.store (TyB.store B0.ty _ _) _ _) (by decide) _ _).alloc _)
 have B1 : Bx w7 (w.heap.size) 38 #[.bool Bh, .slice Be Bg Bf, .slice Bb Bd Bc] := by rw [hW]; exact ((Bx.set (Bx.set (Bx.set B0 0 _ rfl) 1 _ rfl) 2 _ rfl).alloc _)
 have B6 : Bx w7 (w6.heap.size) 38 #[.bool Bh, .slice Be Bg Bf, .slice Bb Bd Bc] := by rw [hW]; exact (Bx.new' _ _ _ _ (by first | rfl | (simp; done)))
 replace hs := B3
 clear B3
 replace B0 := B1
 clear B1
 have B4 := B6
 clear B6
 replace hp := hp.keep hk
 clear hW hk B5 B2 lz
 have C2 := B4.lt
 have B7 := B0.a0
 have B8 := B0.a1
 have B9 := B0.a2
 exact bodyPost_ret (v := .tuple #[.agg #[.bool Bh, .slice Be Bg Bf, .slice Bb Bd Bc], .int .i64 0]) (by simp [results, Tryz.results125, go_sem, B7, B8, B9]) rfl ⟨_, rfl, hp, hs⟩
theorem rfloat_lown {b M N E : Nat} {T : Rat} (H1 : bits BinOp.and IntKind.u64 (b : Int) 4503599627370495 = (M : Int)) (HS : ((b : Int) / 9223372036854775808 == 1) = true) (H2 : bits BinOp.and IntKind.u64 ((b : Int) / 4503599627370496) 2047 = 0) (hM : M < 4503599627370496) (hN : N = M)
  (hT : ∀ w : World, Calls Tryz.prog 152 #[.int .i64 (-1074)] w (RetQ w T)) (sT : SzQ 40 T) (w : World) :
  Calls Tryz.prog 125 #[.float .f64 b] w (RetQE w (-(mkQ false N 1 * T)) 0) := by
 have hs := Below.refl w.heap.size w
 have C9 := run_bits
 have c1 : ∀ w : World, Calls Tryz.prog 123 #[.int .u64 (M : Int)] w (RetN .u32 4294967296 w N) := fun w => by rw [← hN]; exact rn_Nat N w (by omega)
 have c2 : ∀ w : World, Calls Tryz.prog 123 #[.int .u64 1] w (RetN .u32 4294967296 w 1) := fun w => rn_Nat 1 w (by decide)
 have sN : SzQ 40 (mkQ false N 1) := mkQ_size _ _ _ (by decide) _ (Nat.lt_of_lt_of_le (show N < 4294967296 ^ 2 by omega) (Nat.pow_le_pow_right (by decide) (by decide))) (by decide)
 have zN : N < 4294967296 ^ 2 := by omega
 have Bw := Lib.hid c1
 have By := Lib.hid c2
 have HT := Lib.hid hT
 have C0 := Lib.hid sT
 have Bz := Lib.hid sN
 have C1 := Lib.hid zN
 clear c1 c2 hT sT sN zN hN
 go_enter Tryz.func125, Tryz.ntmps125
 go_wp2_with fail
 refine Calls.abs ?_
 intro w1 hW
 have B5 := hs.size
 have B2 : Below w.heap.size w w1 := by rw [hW]; exact (Below.alloc (Below.refl w.heap.size w) (by first | exact hs.size | (have := hs.size; simp; done) | (have := hs.size; simp; omega)) _)
 have B3 : Below w.heap.size w w1 := hs.trans B2
 have hk : KeepD w w1 := by rw [hW]; exact ((KeepD.refl _).alloc _)
 have B1 : Bx w1 (w.heap.size) 38 #[.bool false, .slice none 0 0, .slice none 0 0] := by rw [hW]; exact (Bx.new' _ _ _ _ (by first | rfl | (simp; done)))
 replace hs := B3
 clear B3
 have B0 := B1
 clear B1
 clear hW hk B5 B2
 have Bp := B0.lt
 refine (Bw.out _).mono ?_
 rintro e w2 ⟨_, rfl, hm, hb⟩
 obtain ⟨ahm, nhm, chm, rfl⟩ := hm.shape
 replace hs := bStep hs hb
 replace B0 := B0.mono hb
 clear hb
 go_wp2_with fail
 refine (By.out _).mono ?_
 rintro e w3 ⟨_, rfl, ho, hb⟩
 obtain ⟨aho, nho, cho, rfl⟩ := ho.shape
 replace hs := bStep hs hb
 replace B0 := B0.mono hb
 replace hm := hm.mono hb
 clear hb
 go_wp2_with fail
 have hR := r_made_calls false _ _ N 1 2 _ hm ho (by decide) (by decide) C1.out (by decide)
 refine hR.mono ?_
 clear hR
 rintro e w4 ⟨_, rfl, hx, hb⟩
 obtain ⟨shx, ahx, nhx, chx, Ahx, Nhx, Chx, rfl⟩ := hx.shape
 replace hs := bStep hs hb
 replace B0 := B0.mono hb
 replace hm := hm.mono hb
 replace ho := ho.mono hb
 clear hb
 go_wp2_with fail
 refine (HT.out _).mono ?_
 rintro e w5 ⟨_, rfl, ht, hb⟩
 obtain ⟨sht, aht, nht, cht, Aht, Nht, Cht, rfl⟩ := ht.shape
 replace hs := bStep hs hb
 replace B0 := B0.mono hb
 replace hm := hm.mono hb
 replace ho := ho.mono hb
 replace hx := hx.mono hb
 clear hb
 go_wp2_with fail
 refine (r_Mul_calls _ _ _ _ 40 _ hx ht (by decide) Bz.out C0.out).mono ?_
 rintro e w6 ⟨_, rfl, hp, hb⟩
 obtain ⟨Bh, Be, Bg, Bf, Bb, Bd, Bc, rfl⟩ := hp.shape
 replace hs := bStep hs hb
 replace B0 := B0.mono hb
 replace hm := hm.mono hb
 replace ho := ho.mono hb
 replace hx := hx.mono hb
 replace ht := ht.mono hb
 clear hb
 go_wp2_with fail
 have nzx := B0.lt
 refine Calls.abs ?_
 intro w7 hW
 have B5 := hs.size
 have lz := B0.lt
 have B2 : Below w.heap.size w6 w7 := by rw [hW]; exact (Below.alloc (Below.refl w.heap.size w6) (by first | exact hs.size | (have := hs.size; simp; done) | (have := hs.size; simp; omega)) _)
 have B3 : Below w.heap.size w w7 := hs.trans B2
 have hk : KeepD w6 w7 := by rw [hW]; exact ((KeepD.refl _).alloc _)
 have B1 : Bx w7 (w.heap.size) 38 #[.bool false, .slice none 0 0, .slice none 0 0] := by rw [hW]; exact (B0.alloc _)
 have B6 : Bx w7 (w6.heap.size) 38 #[.bool Bh, .slice Be Bg Bf, .slice Bb Bd Bc] := by rw [hW]; exact (Bx.new' _ _ _ _ (by first | rfl | (simp; done)))
 replace hs := B3
 clear B3
 replace B0 := B1
 clear B1
 have B4 := B6
 clear B6
 replace hm := hm.keep hk
 replace ho := ho.keep hk
 replace hx := hx.keep hk
 replace ht := ht.keep hk
 replace hp := hp.keep hk
 clear hW hk B5 B2 lz
 have C2 := B4.lt
 refine (r_Neg_calls _ _ _ hp).mono ?_
 rintro e w8 ⟨_, rfl, hn, hb⟩
 obtain ⟨Bo, Bl, Bn, Bm, Bi, Bk, Bj, rfl⟩ := hn.shape
 replace hs := bStep hs hb
 replace B0 := B0.mono hb
 replace B4 := B4.mono hb
 replace hm := hm.mono hb
 replace ho := ho.mono hb
 replace hx := hx.mono hb
 replace ht := ht.mono hb
 replace hp := hp.mono hb
 clear hb
 have C6 := B4.a0
 have C7 := B4.a1
 have C8 := B4.a2
 have fx := B4.free
 have Lx := B4.lt
 go_upto_region 12 with fail
 refine Code.abs ?_
 intro w9 hW
 have B5 := hs.size
 have lz := B0.lt
 have lx := B4.lt
 have B2 : Below w.heap.size w8 w9 := by rw [hW]; exact (Below.setCell (Below.setCell (Below.setCell (Below.refl w.heap.size w8) (by first | exact Nat.le_refl _ | omega | (have := hs.size; simp; done) | (have := hs.size; simp; omega)) _) (by first | exact Nat.le_refl _ | omega | (have := hs.size; simp; done) | (have := hs.size; simp; omega)) _) (by first | exact Nat.le_refl _ | omega | (have := hs.size; simp; done) | (have := hs.size; simp; omega)) _)
 have B3 : Below w.heap.size w w9 := hs.trans B2
 have hk : KeepD w8 w9 := by rw [hW]; exact (KeepD.set (KeepD.set (KeepD.set (KeepD.refl _) B4.ty (by decide) _ _) (TyB.store B4.ty _ _) (by decide) _ _) (TyB.store (TyB.store B4.ty _ _) _ _) (by decide) _ _)
 have B1 : Bx w9 (w.heap.size) 38 #[.bool false, .slice none 0 0, .slice none 0 0] := by rw [hW]; exact (Bx.far (Bx.far (Bx.far B0 (by first | omega | (simp; done) | (simp; omega)) _) (by first | omega | (simp; done) | (simp; omega)) _) (by first | omega | (simp; done) | (simp; omega)) _)
 have B6 : Bx w9 (w6.heap.size) 38 #[.bool Bo, .slice Bl Bn Bm, .slice Bi Bk Bj] := by rw [hW]; exact (Bx.set (Bx.set (Bx.set B4 0 _ rfl) 1 _ rfl) 2 _ rfl)
 replace hs := B3
 clear B3
 replace B0 := B1
 clear B1
 replace B4 := B6
 clear B6
 replace hm := hm.keep hk
 replace ho := ho.keep hk
 replace hx := hx.keep hk
 replace ht := ht.keep hk
 replace hp := hp.keep hk
 replace hn := hn.keep hk
 clear hW hk B5 B2 lz lx
 have C6 := B4.a0
 have C7 := B4.a1
 have C8 := B4.a2
 have B7 := B0.a0
 have B8 := B0.a1
 have B9 := B0.a2
 have fz := B0.free
 have Lz := B0.lt
 go_wp2
 refine bodyPost.abs ?_
 intro Ba hW
 have B5 := hs.size
 have lz := B0.lt
 have lx := B4.lt
 have B2 : Below w.heap.size w9 Ba := by rw [hW]; exact (Below.setCell (Below.setCell (Below.setCell (Below.refl w.heap.size w9) (by first | exact Nat.le_refl _ | omega | (have := hs.size; simp; done) | (have := hs.size; simp; omega)) _) (by first | exact Nat.le_refl _ | omega | (have := hs.size; simp; done) | (have := hs.size; simp; omega)) _) (by first | exact Nat.le_refl _ | omega | (have := hs.size; simp; done) | (have := hs.size; simp; omega)) _)
 have B3 : Below w.heap.size w Ba := hs.trans B2
 have hk : KeepD w9 Ba := by rw [hW]; exact (KeepD.set (KeepD.set (KeepD.set (KeepD.refl _) B0.ty (by decide) _ _) (TyB.store B0.ty _ _) (by decide) _ _) (TyB.store (TyB.store B0.ty _ _) _ _) (by decide) _ _)
 have B1 : Bx Ba (w.heap.size) 38 #[.bool Bo, .slice Bl Bn Bm, .slice Bi Bk Bj] := by rw [hW]; exact (Bx.set (Bx.set (Bx.set B0 0 _ rfl) 1 _ rfl) 2 _ rfl)
 have B6 : Bx Ba (w6.heap.size) 38 #[.bool Bo, .slice Bl Bn Bm, .slice Bi Bk Bj] := by rw [hW]; exact (Bx.far (Bx.far (Bx.far B4 (by first | omega | (simp; done) | (simp; omega)) _) (by first | omega | (simp; done) | (simp; omega)) _) (by first | omega | (simp; done) | (simp; omega)) _)
 replace hs := B3
 clear B3
 replace B0 := B1
 clear B1
 replace B4 := B6
 clear B6
 replace hn := hn.keep hk
 clear hW hk B5 B2 lz lx
 have B7 := B0.a0
 have B8 := B0.a1
 have B9 := B0.a2
 exact bodyPost_ret (v := .tuple #[.agg #[.bool Bo, .slice Bl Bn Bm, .slice Bi Bk Bj], .int .i64 0]) (by simp [results, Tryz.results125, go_sem, B7, B8, B9]) rfl ⟨_, rfl, hn, hs⟩
theorem rfloat_highp {b M N E : Nat} {T : Rat} (H1 : bits BinOp.and IntKind.u64 (b : Int) 4503599627370495 = (M : Int)) (HS : ((b : Int) / 9223372036854775808 == 1) = false) (H2 : bits BinOp.and IntKind.u64 ((b : Int) / 4503599627370496) 2047 = (E : Int)) (hM : M < 4503599627370496) (hN : N = M + 4503599627370496) (h1 : 1 ≤ E) (h2 : E < 2047)
  (hT : ∀ w : World, Calls Tryz.prog 152 #[.int .i64 ((E : Int) - 1075)] w (RetQ w T)) (sT : SzQ 40 T) (w : World) :
  Calls Tryz.prog 125 #[.float .f64 b] w (RetQE w (mkQ false N 1 * T) 0) := by
 have hs := Below.refl w.heap.size w
 have C9 := run_bits
 have hE0 : ((E : Int) == 2047) = false := by simp; omega
 have hE1 : ((0 : Int) < (E : Int)) = True := eq_true (by omega)
 have c1 : ∀ w : World, Calls Tryz.prog 123 #[.int .u64 ((M : Int) + 4503599627370496 : Int)] w (RetN .u32 4294967296 w N) := fun w => by rw [show (M : Int) + 4503599627370496 = (N : Int) by omega]; exact rn_Nat N w (by omega)
 have c2 : ∀ w : World, Calls Tryz.prog 123 #[.int .u64 1] w (RetN .u32 4294967296 w 1) := fun w => rn_Nat 1 w (by decide)
 have sN : SzQ 40 (mkQ false N 1) := mkQ_size _ _ _ (by decide) _ (Nat.lt_of_lt_of_le (show N < 4294967296 ^ 2 by omega) (Nat.pow_le_pow_right (by decide) (by decide))) (by decide)
 have zN : N < 4294967296 ^ 2 := by omega
 have Bw := Lib.hid c1
 have By := Lib.hid c2
 have HT := Lib.hid hT
 have C0 := Lib.hid sT
 have Bz := Lib.hid sN
 have C1 := Lib.hid zN
 clear c1 c2 hT sT sN zN hN
 go_enter Tryz.func125, Tryz.ntmps125
 go_wp2_with fail
 refine Calls.abs ?_
 intro w1 hW
 have B5 := hs.size
 have B2 : Below w.heap.size w w1 := by rw [hW]; exact (Below.alloc (Below.refl w.heap.size w) (by first | exact hs.size | (have := hs.size; simp; done) | (have := hs.size; simp; omega)) _)
 have B3 : Below w.heap.size w w1 := hs.trans B2
 have hk : KeepD w w1 := by rw [hW]; exact ((KeepD.refl _).alloc _)
 have B1 : Bx w1 (w.heap.size) 38 #[.bool false, .slice none 0 0, .slice none 0 0] := by rw [hW]; exact (Bx.new' _ _ _ _ (by first | rfl | (simp; done)))
 replace hs := B3
 clear B3
 have B0 := B1
 clear B1
 clear hW hk B5 B2
 have Bp := B0.lt
 refine (Bw.out _).mono ?_
 rintro e w2 ⟨_, rfl, hm, hb⟩
 obtain ⟨ahm, nhm, chm, rfl⟩ := hm.shape
 replace hs := bStep hs hb
 replace B0 := B0.mono hb
 clear hb
 go_wp2_with fail
 refine (By.out _).mono ?_
 rintro e w3 ⟨_, rfl, ho, hb⟩
 obtain ⟨aho, nho, cho, rfl⟩ := ho.shape
 replace hs := bStep hs hb
 replace B0 := B0.mono hb
 replace hm := hm.mono hb
 clear hb
 go_wp2_with fail
 have hR := r_made_calls false _ _ N 1 2 _ hm ho (by decide) (by decide) C1.out (by decide)
 refine hR.mono ?_
 clear hR
 rintro e w4 ⟨_, rfl, hx, hb⟩
 obtain ⟨shx, ahx, nhx, chx, Ahx, Nhx, Chx, rfl⟩ := hx.shape
 replace hs := bStep hs hb
 replace B0 := B0.mono hb
 replace hm := hm.mono hb
 replace ho := ho.mono hb
 clear hb
 go_wp2_with fail
 refine (HT.out _).mono ?_
 rintro e w5 ⟨_, rfl, ht, hb⟩
 obtain ⟨sht, aht, nht, cht, Aht, Nht, Cht, rfl⟩ := ht.shape
 replace hs := bStep hs hb
 replace B0 := B0.mono hb
 replace hm := hm.mono hb
 replace ho := ho.mono hb
 replace hx := hx.mono hb
 clear hb
 go_wp2_with fail
 refine (r_Mul_calls _ _ _ _ 40 _ hx ht (by decide) Bz.out C0.out).mono ?_
 rintro e w6 ⟨_, rfl, hp, hb⟩
 obtain ⟨Bh, Be, Bg, Bf, Bb, Bd, Bc, rfl⟩ := hp.shape
 replace hs := bStep hs hb
 replace B0 := B0.mono hb
 replace hm := hm.mono hb
 replace ho := ho.mono hb
 replace hx := hx.mono hb
 replace ht := ht.mono hb
 clear hb
 have B7 := B0.a0
 have B8 := B0.a1
 have B9 := B0.a2
 have fz := B0.free
 have Lz := B0.lt
 go_wp2
 refine bodyPost.abs ?_
 intro w7 hW
 have B5 := hs.size
 have lz := B0.lt
 have B2 : Below w.heap.size w6 w7 := by rw [hW]; exact (Below.alloc (Below.setCell (Below.setCell (Below.setCell (Below.refl w.heap.size w6) (by first | exact Nat.le_refl _ | omega | (have := hs.size; simp; done) | (have := hs.size; simp; omega)) _) (by first | exact Nat.le_refl _ | omega | (have := hs.size; simp; done) | (have := hs.size; simp; omega)) _) (by first | exact Nat.le_refl _ | omega | (have := hs.size; simp; done) | (have := hs.size; simp; omega)) _) (by first | exact hs.size | (have := hs.size; simp; done) | (have := hs.size; simp; omega)) _)
 have B3 : Below w.heap.size w w7 := hs.trans B2
 have hk : KeepD w6 w7 := by rw [hW]; exact ((KeepD.set (KeepD.set (KeepD.set (KeepD.refl _) B0.ty (by decide) _ _) (TyB.store B0.ty _ _) (by decide) _ _) (TyB.store (TyB.store B0.ty _ _) _ _) (by decide) _ _).alloc _)
 have B1 : Bx w7 (w.heap.size) 38 #[.bool Bh, .slice Be Bg Bf, .slice Bb Bd Bc] := by rw [hW]; exact ((Bx.set (Bx.set (Bx.set B0 0 _ rfl) 1 _ rfl) 2 _ rfl).alloc _)
 have B6 : Bx w7 (w6.heap.size) 38 #[.bool Bh, .slice Be Bg Bf, .slice Bb Bd Bc] := by rw [hW]; exact (Bx.new' _ _ _ _ (by first | rfl | (simp; done)))
 replace hs := B3
 clear B3
 replace B0 := B1
 clear B1
 have B4 := B6
 clear B6
 replace hp := hp.keep hk
 clear hW hk B5 B2 lz
 have C2 := B4.lt
 have B7 := B0.a0
 have B8 := B0.a1
 have B9 := B0.a2
 exact bodyPost_ret (v := .tuple #[.agg #[.bool Bh, .slice Be Bg Bf, .slice Bb Bd Bc], .int .i64 0]) (by simp [results, Tryz.results125, go_sem, B7, B8, B9]) rfl ⟨_, rfl, hp, hs⟩
theorem rfloat_highn {b M N E : Nat} {T : Rat} (H1 : bits BinOp.and IntKind.u64 (b : Int) 4503599627370495 = (M : Int)) (HS : ((b : Int) / 9223372036854775808 == 1) = true) (H2 : bits BinOp.and IntKind.u64 ((b : Int) / 4503599627370496) 2047 = (E : Int)) (hM : M < 4503599627370496) (hN : N = M + 4503599627370496) (h1 : 1 ≤ E) (h2 : E < 2047)
  (hT : ∀ w : World, Calls Tryz.prog 152 #[.int .i64 ((E : Int) - 1075)] w (RetQ w T)) (sT : SzQ 40 T) (w : World) :
  Calls Tryz.prog 125 #[.float .f64 b] w (RetQE w (-(mkQ false N 1 * T)) 0) := by
 have hs := Below.refl w.heap.size w
 have C9 := run_bits
 have hE0 : ((E : Int) == 2047) = false := by simp; omega
 have hE1 : ((0 : Int) < (E : Int)) = True := eq_true (by omega)
 have c1 : ∀ w : World, Calls Tryz.prog 123 #[.int .u64 ((M : Int) + 4503599627370496 : Int)] w (RetN .u32 4294967296 w N) := fun w => by rw [show (M : Int) + 4503599627370496 = (N : Int) by omega]; exact rn_Nat N w (by omega)
 have c2 : ∀ w : World, Calls Tryz.prog 123 #[.int .u64 1] w (RetN .u32 4294967296 w 1) := fun w => rn_Nat 1 w (by decide)
 have sN : SzQ 40 (mkQ false N 1) := mkQ_size _ _ _ (by decide) _ (Nat.lt_of_lt_of_le (show N < 4294967296 ^ 2 by omega) (Nat.pow_le_pow_right (by decide) (by decide))) (by decide)
 have zN : N < 4294967296 ^ 2 := by omega
 have Bw := Lib.hid c1
 have By := Lib.hid c2
 have HT := Lib.hid hT
 have C0 := Lib.hid sT
 have Bz := Lib.hid sN
 have C1 := Lib.hid zN
 clear c1 c2 hT sT sN zN hN
 go_enter Tryz.func125, Tryz.ntmps125
 go_wp2_with fail
 refine Calls.abs ?_
 intro w1 hW
 have B5 := hs.size
 have B2 : Below w.heap.size w w1 := by rw [hW]; exact (Below.alloc (Below.refl w.heap.size w) (by first | exact hs.size | (have := hs.size; simp; done) | (have := hs.size; simp; omega)) _)
 have B3 : Below w.heap.size w w1 := hs.trans B2
 have hk : KeepD w w1 := by rw [hW]; exact ((KeepD.refl _).alloc _)
 have B1 : Bx w1 (w.heap.size) 38 #[.bool false, .slice none 0 0, .slice none 0 0] := by rw [hW]; exact (Bx.new' _ _ _ _ (by first | rfl | (simp; done)))
 replace hs := B3
 clear B3
 have B0 := B1
 clear B1
 clear hW hk B5 B2
 have Bp := B0.lt
 refine (Bw.out _).mono ?_
 rintro e w2 ⟨_, rfl, hm, hb⟩
 obtain ⟨ahm, nhm, chm, rfl⟩ := hm.shape
 replace hs := bStep hs hb
 replace B0 := B0.mono hb
 clear hb
 go_wp2_with fail
 refine (By.out _).mono ?_
 rintro e w3 ⟨_, rfl, ho, hb⟩
 obtain ⟨aho, nho, cho, rfl⟩ := ho.shape
 replace hs := bStep hs hb
 replace B0 := B0.mono hb
 replace hm := hm.mono hb
 clear hb
 go_wp2_with fail
 have hR := r_made_calls false _ _ N 1 2 _ hm ho (by decide) (by decide) C1.out (by decide)
 refine hR.mono ?_
 clear hR
 rintro e w4 ⟨_, rfl, hx, hb⟩
 obtain ⟨shx, ahx, nhx, chx, Ahx, Nhx, Chx, rfl⟩ := hx.shape
 replace hs := bStep hs hb
 replace B0 := B0.mono hb
 replace hm := hm.mono hb
 replace ho := ho.mono hb
 clear hb
 go_wp2_with fail
 refine (HT.out _).mono ?_
 rintro e w5 ⟨_, rfl, ht, hb⟩
 obtain ⟨sht, aht, nht, cht, Aht, Nht, Cht, rfl⟩ := ht.shape
 replace hs := bStep hs hb
 replace B0 := B0.mono hb
 replace hm := hm.mono hb
 replace ho := ho.mono hb
 replace hx := hx.mono hb
 clear hb
 go_wp2_with fail
 refine (r_Mul_calls _ _ _ _ 40 _ hx ht (by decide) Bz.out C0.out).mono ?_
 rintro e w6 ⟨_, rfl, hp, hb⟩
 obtain ⟨Bh, Be, Bg, Bf, Bb, Bd, Bc, rfl⟩ := hp.shape
 replace hs := bStep hs hb
 replace B0 := B0.mono hb
 replace hm := hm.mono hb
 replace ho := ho.mono hb
 replace hx := hx.mono hb
 replace ht := ht.mono hb
 clear hb
 go_wp2_with fail
 have nzx := B0.lt
 refine Calls.abs ?_
 intro w7 hW
 have B5 := hs.size
 have lz := B0.lt
 have B2 : Below w.heap.size w6 w7 := by rw [hW]; exact (Below.alloc (Below.refl w.heap.size w6) (by first | exact hs.size | (have := hs.size; simp; done) | (have := hs.size; simp; omega)) _)
 have B3 : Below w.heap.size w w7 := hs.trans B2
 have hk : KeepD w6 w7 := by rw [hW]; exact ((KeepD.refl _).alloc _)
 have B1 : Bx w7 (w.heap.size) 38 #[.bool false, .slice none 0 0, .slice none 0 0] := by rw [hW]; exact (B0.alloc _)
 have B6 : Bx w7 (w6.heap.size) 38 #[.bool Bh, .slice Be Bg Bf, .slice Bb Bd Bc] := by rw [hW]; exact (Bx.new' _ _ _ _ (by first | rfl | (simp; done)))
 replace hs := B3
 clear B3
 replace B0 := B1
 clear B1
 have B4 := B6
 clear B6
 replace hm := hm.keep hk
 replace ho := ho.keep hk
 replace hx := hx.keep hk
 replace ht := ht.keep hk
 replace hp := hp.keep hk
 clear hW hk B5 B2 lz
 have C2 := B4.lt
 refine (r_Neg_calls _ _ _ hp).mono ?_
 rintro e w8 ⟨_, rfl, hn, hb⟩
 obtain ⟨Bo, Bl, Bn, Bm, Bi, Bk, Bj, rfl⟩ := hn.shape
 replace hs := bStep hs hb
 replace B0 := B0.mono hb
 replace B4 := B4.mono hb
 replace hm := hm.mono hb
 replace ho := ho.mono hb
 replace hx := hx.mono hb
 replace ht := ht.mono hb
 replace hp := hp.mono hb
 clear hb
 have C6 := B4.a0
 have C7 := B4.a1
 have C8 := B4.a2
 have fx := B4.free
 have Lx := B4.lt
 go_upto_region 12 with fail
 refine Code.abs ?_
 intro w9 hW
 have B5 := hs.size
 have lz := B0.lt
 have lx := B4.lt
 have B2 : Below w.heap.size w8 w9 := by rw [hW]; exact (Below.setCell (Below.setCell (Below.setCell (Below.refl w.heap.size w8) (by first | exact Nat.le_refl _ | omega | (have := hs.size; simp; done) | (have := hs.size; simp; omega)) _) (by first | exact Nat.le_refl _ | omega | (have := hs.size; simp; done) | (have := hs.size; simp; omega)) _) (by first | exact Nat.le_refl _ | omega | (have := hs.size; simp; done) | (have := hs.size; simp; omega)) _)
 have B3 : Below w.heap.size w w9 := hs.trans B2
 have hk : KeepD w8 w9 := by rw [hW]; exact (KeepD.set (KeepD.set (KeepD.set (KeepD.refl _) B4.ty (by decide) _ _) (TyB.store B4.ty _ _) (by decide) _ _) (TyB.store (TyB.store B4.ty _ _) _ _) (by decide) _ _)
 have B1 : Bx w9 (w.heap.size) 38 #[.bool false, .slice none 0 0, .slice none 0 0] := by rw [hW]; exact (Bx.far (Bx.far (Bx.far B0 (by first | omega | (simp; done) | (simp; omega)) _) (by first | omega | (simp; done) | (simp; omega)) _) (by first | omega | (simp; done) | (simp; omega)) _)
 have B6 : Bx w9 (w6.heap.size) 38 #[.bool Bo, .slice Bl Bn Bm, .slice Bi Bk Bj] := by rw [hW]; exact (Bx.set (Bx.set (Bx.set B4 0 _ rfl) 1 _ rfl) 2 _ rfl)
 replace hs := B3
 clear B3
 replace B0 := B1
 clear B1
 replace B4 := B6
 clear B6
 replace hm := hm.keep hk
 replace ho := ho.keep hk
 replace hx := hx.keep hk
 replace ht := ht.keep hk
 replace hp := hp.keep hk
 replace hn := hn.keep hk
 clear hW hk B5 B2 lz lx
 have C6 := B4.a0
 have C7 := B4.a1
 have C8 := B4.a2
 have B7 := B0.a0
 have B8 := B0.a1
 have B9 := B0.a2
 have fz := B0.free
 have Lz := B0.lt
 go_wp2
 refine bodyPost.abs ?_
 intro Ba hW
 have B5 := hs.size
 have lz := B0.lt
 have lx := B4.lt
 have B2 : Below w.heap.size w9 Ba := by rw [hW]; exact (Below.setCell (Below.setCell (Below.setCell (Below.refl w.heap.size w9) (by first | exact Nat.le_refl _ | omega | (have := hs.size; simp; done) | (have := hs.size; simp; omega)) _) (by first | exact Nat.le_refl _ | omega | (have := hs.size; simp; done) | (have := hs.size; simp; omega)) _) (by first | exact Nat.le_refl _ | omega | (have := hs.size; simp; done) | (have := hs.size; simp; omega)) _)
 have B3 : Below w.heap.size w Ba := hs.trans B2
 have hk : KeepD w9 Ba := by rw [hW]; exact (KeepD.set (KeepD.set (KeepD.set (KeepD.refl _) B0.ty (by decide) _ _) (TyB.store B0.ty _ _) (by decide) _ _) (TyB.store (TyB.store B0.ty _ _) _ _) (by decide) _ _)
 have B1 : Bx Ba (w.heap.size) 38 #[.bool Bo, .slice Bl Bn Bm, .slice Bi Bk Bj] := by rw [hW]; exact (Bx.set (Bx.set (Bx.set B0 0 _ rfl) 1 _ rfl) 2 _ rfl)
 have B6 : Bx Ba (w6.heap.size) 38 #[.bool Bo, .slice Bl Bn Bm, .slice Bi Bk Bj] := by rw [hW]; exact (Bx.far (Bx.far (Bx.far B4 (by first | omega | (simp; done) | (simp; omega)) _) (by first | omega | (simp; done) | (simp; omega)) _) (by first | omega | (simp; done) | (simp; omega)) _)
 replace hs := B3
 clear B3
 replace B0 := B1
 clear B1
 replace B4 := B6
 clear B6
 replace hn := hn.keep hk
 clear hW hk B5 B2 lz lx
 have B7 := B0.a0
 have B8 := B0.a1
 have B9 := B0.a2
 exact bodyPost_ret (v := .tuple #[.agg #[.bool Bo, .slice Bl Bn Bm, .slice Bi Bk Bj], .int .i64 0]) (by simp [results, Tryz.results125, go_sem, B7, B8, B9]) rfl ⟨_, rfl, hn, hs⟩
theorem rfloat_odd {b : Nat} (hb : b < 18446744073709551616) (h : flE b = 2047) (w : World) : Calls Tryz.prog 125 #[.float .f64 b] w (RetQE w 0 1) := by
 have hs := Below.refl w.heap.size w
 have C9 := run_bits
 have H2 : bits BinOp.and IntKind.u64 ((b : Int) / 4503599627370496) 2047 = 2047 := by
  have := band11 hb
  rwa [Int.natCast_ediv, h] at this
 go_enter Tryz.func125, Tryz.ntmps125
 go_wp2_with fail
 refine Calls.abs ?_
 intro w1 hW
 have B5 := hs.size
 have B2 : Below w.heap.size w w1 := by rw [hW]; exact (Below.alloc (Below.refl w.heap.size w) (by first | exact hs.size | (have := hs.size; simp; done) | (have := hs.size; simp; omega)) _)
 have B3 : Below w.heap.size w w1 := hs.trans B2
 have hk : KeepD w w1 := by rw [hW]; exact ((KeepD.refl _).alloc _)
 have B1 : Bx w1 (w.heap.size) 38 #[.bool false, .slice none 0 0, .slice none 0 0] := by rw [hW]; exact (Bx.new' _ _ _ _ (by first | rfl | (simp; done)))
 replace hs := B3
 clear B3
 have B0 := B1
 clear B1
 clear hW hk B5 B2
 have Bp := B0.lt
 refine (r_Int_calls 0 _ (by decide) (by decide)).mono ?_
 rintro e w2 ⟨_, rfl, hi, hb⟩
 obtain ⟨shi, ahi, nhi, chi, Ahi, Nhi, Chi, rfl⟩ := hi.shape
 replace hs := bStep hs hb
 replace B0 := B0.mono hb
 clear hb
 have B7 := B0.a0
 have B8 := B0.a1
 have B9 := B0.a2
 have fz := B0.free
 have Lz := B0.lt
 go_wp2
 refine bodyPost.abs ?_
 intro w3 hW
 have B5 := hs.size
 have lz := B0.lt
 have B2 : Below w.heap.size w2 w3 := by rw [hW]; exact (Below.setCell (Below.setCell (Below.setCell (Below.refl w.heap.size w2) (by first | exact Nat.le_refl _ | omega | (have := hs.size; simp; done) | (have := hs.size; simp; omega)) _) (by first | exact Nat.le_refl _ | omega | (have := hs.size; simp; done) | (have := hs.size; simp; omega)) _) (by first | exact Nat.le_refl _ | omega | (have := hs.size; simp; done) | (have := hs.size; simp; omega)) _)
 have B3 : Below w.heap.size w w3 := hs.trans B2
 have hk : KeepD w2 w3 := by rw [hW]; exact (KeepD.set (KeepD.set (KeepD.set (KeepD.refl _) B0.ty (by decide) _ _) (TyB.store B0.ty _ _) (by decide) _ _) (TyB.store (TyB.store B0.ty _ _) _ _) (by decide) _ _)
 have B1 : Bx w3 (w.heap.size) 38 #[.bool shi, .slice ahi nhi chi, .slice Ahi Nhi Chi] := by rw [hW]; exact (Bx.set (Bx.set (Bx.set B0 0 _ rfl) 1 _ rfl) 2 _ rfl)
 replace hs := B3
 clear B3
 replace B0 := B1
 clear B1
 replace hi := hi.keep hk
 clear hW hk B5 B2 lz
 have B7 := B0.a0
 have B8 := B0.a1
 have B9 := B0.a2
 exact bodyPost_ret (v := .tuple #[.agg #[.bool shi, .slice ahi nhi chi, .slice Ahi Nhi Chi], .int .i64 1]) (by simp [results, Tryz.results125, go_sem, B7, B8, B9]) rfl ⟨_, rfl, hi, hs⟩
theorem r_two_zero (w : World) : Calls Tryz.prog 152 #[.int .i64 ((0 : Nat) : Int)] w (RetQ w (mkQ false (2 ^ 0) 1)) := by
 have hs := Below.refl w.heap.size w
 have c1 : ∀ w : World, Calls Tryz.prog 123 #[.int .u64 1] w (RetN .u32 4294967296 w 1) := fun w => rn_Nat 1 w (by decide)
 have Ca : (((0 : Nat) : Int) < (0 : Int)) = False := eq_false (by omega)
 go_enter Tryz.func152, Tryz.ntmps152
 go_wp2_with fail
 refine Calls.abs ?_
 intro w1 hW
 have B5 := hs.size
 have B2 : Below w.heap.size w w1 := by rw [hW]; exact (Below.alloc (Below.refl w.heap.size w) (by first | exact hs.size | (have := hs.size; simp; done) | (have := hs.size; simp; omega)) _)
 have B3 : Below w.heap.size w w1 := hs.trans B2
 have hk : KeepD w w1 := by rw [hW]; exact ((KeepD.refl _).alloc _)
 have B1 : Bx w1 (w.heap.size) 38 #[.bool false, .slice none 0 0, .slice none 0 0] := by rw [hW]; exact (Bx.new' _ _ _ _ (by first | rfl | (simp; done)))
 replace hs := B3
 clear B3
 have B0 := B1
 clear B1
 clear hW hk B5 B2
 have Bp := B0.lt
 refine (c1 _).mono ?_
 rintro e w2 ⟨_, rfl, h5, hb⟩
 obtain ⟨C3, C5, C4, rfl⟩ := h5.shape
 replace hs := bStep hs hb
 replace B0 := B0.mono hb
 clear hb
 go_wp2_with fail
 refine (rn_Shifted1 (k := 0) h5 (by decide)).mono ?_
 rintro e w3 ⟨_, rfl, h9, hb⟩
 obtain ⟨Bq, Bs, Br, rfl⟩ := h9.shape
 replace hs := bStep hs hb
 replace B0 := B0.mono hb
 replace h5 := h5.mono hb
 clear hb
 go_wp2_with fail
 refine (c1 _).mono ?_
 rintro e w4 ⟨_, rfl, h6, hb⟩
 obtain ⟨Bt, Bv, Bu, rfl⟩ := h6.shape
 replace hs := bStep hs hb
 replace B0 := B0.mono hb
 replace h5 := h5.mono hb
 replace h9 := h9.mono hb
 clear hb
 have hq := rv_up (k := 0) h9 h6
 have B7 := B0.a0
 have B8 := B0.a1
 have B9 := B0.a2
 have fz := B0.free
 have Lz := B0.lt
 go_wp2
 refine bodyPost.abs ?_
 intro w5 hW
 have B5 := hs.size
 have lz := B0.lt
 have B2 : Below w.heap.size w4 w5 := by rw [hW]; exact (Below.setCell (Below.setCell (Below.setCell (Below.refl w.heap.size w4) (by first | exact Nat.le_refl _ | omega | (have := hs.size; simp; done) | (have := hs.size; simp; omega)) _) (by first | exact Nat.le_refl _ | omega | (have := hs.size; simp; done) | (have := hs.size; simp; omega)) _) (by first | exact Nat.le_refl _ | omega | (have := hs.size; simp; done) | (have := hs.size; simp; omega)) _)
 have B3 : Below w.heap.size w w5 := hs.trans B2
 have hk : KeepD w4 w5 := by rw [hW]; exact (KeepD.set (KeepD.set (KeepD.set (KeepD.refl _) B0.ty (by decide) _ _) (TyB.store B0.ty _ _) (by decide) _ _) (TyB.store (TyB.store B0.ty _ _) _ _) (by decide) _ _)
 have B1 : Bx w5 (w.heap.size) 38 #[.bool false, .slice Bq Bs Br, .slice Bt Bv Bu] := by rw [hW]; exact (Bx.set (Bx.set (Bx.set B0 0 _ rfl) 1 _ rfl) 2 _ rfl)
 replace hs := B3
 clear B3
 replace B0 := B1
 clear B1
 replace hq := hq.keep hk
 clear hW hk B5 B2 lz
 have B7 := B0.a0
 have B8 := B0.a1
 have B9 := B0.a2
 exact bodyPost_ret (v := .agg #[.bool false, .slice Bq Bs Br, .slice Bt Bv Bu]) (by simp [results, Tryz.results152, go_sem, B7, B8, B9]) rfl ⟨_, rfl, hq, hs⟩
theorem mkQ_times {s : Bool} (n m d e : Nat) : mkQ s n d * mkQ false m e = mkQ s (n * m) (d * e) := by
 unfold mkQ
 rw [Rat.mkRat_mul_mkRat]
 cases s <;> simp [Int.neg_mul]
theorem mkQ_minus (n d : Nat) : -mkQ false n d = mkQ true n d := by
 unfold mkQ
 simp only [if_true, Bool.false_eq_true, if_false]
 exact Rat.neg_mkRat _ _
def twoQ (X : Nat) : Rat := if 1075 ≤ X then mkQ false (2 ^ (X - 1075)) 1 else mkQ false 1 (2 ^ (1075 - X))
theorem flQ_ref (b : Nat) : (if flS b = true then -(mkQ false (flN b) 1 * twoQ (flX b)) else mkQ false (flN b) 1 * twoQ (flX b)) = flQ b := by
 unfold flQ twoQ
 by_cases h : 1075 ≤ flX b
 ·rw [if_pos h, if_pos h, mkQ_times, Nat.one_mul, mkQ_minus]
  cases flS b <;> simp
 ·rw [if_neg h, if_neg h, mkQ_times, Nat.mul_one, Nat.one_mul, mkQ_minus]
  cases flS b <;> simp
theorem twoQ_sz {X : Nat} (h1 : 1 ≤ X) (h2 : X ≤ 2046) : SzQ 40 (twoQ X) := by
 unfold twoQ
 split
 ·have := pow32 (X - 1075) 34 (by omega)
  have h4 : (4294967296 : Nat) ^ 34 < 4294967296 ^ 40 := Nat.pow_lt_pow_right (by decide) (by decide)
  exact mkQ_size _ _ _ (by decide) _ (by omega) (by decide)
 ·have := pow32 (1075 - X) 34 (by omega)
  have h4 : (4294967296 : Nat) ^ 34 < 4294967296 ^ 40 := Nat.pow_lt_pow_right (by decide) (by decide)
  exact mkQ_size _ _ _ (by have := Nat.two_pow_pos (1075 - X); omega) _ (by decide) (by omega)
theorem r_two_calls {X : Nat} (h1 : 1 ≤ X) (h2 : X ≤ 2046) (w : World) : Calls Tryz.prog 152 #[.int .i64 ((X : Int) - 1075)] w (RetQ w (twoQ X)) := by
 unfold twoQ
 by_cases h : 1075 ≤ X
 ·rw [if_pos h, show (X : Int) - 1075 = ((X - 1075 : Nat) : Int) by omega]
  by_cases h0 : X - 1075 = 0
  ·rw [h0]; exact r_two_zero w
  ·exact r_two_up (by omega) (by omega) w
 ·rw [if_neg h, show (X : Int) - 1075 = -((1075 - X : Nat) : Int) by omega]
  exact r_two_down (by omega) (by omega) w
theorem rfloat_fin {b : Nat} (hb : b < 18446744073709551616) (h : flE b ≠ 2047) (w : World) : Calls Tryz.prog 125 #[.float .f64 b] w (RetQE w (flQ b) 0) := by
 have H1 := band52 hb
 have H2 : bits BinOp.and IntKind.u64 ((b : Int) / 4503599627370496) 2047 = (flE b : Int) := by
  have := band11 hb
  rwa [Int.natCast_ediv] at this
 have HS : ((b : Int) / 9223372036854775808 == 1) = flS b := by
  unfold flS
  by_cases e : b / 9223372036854775808 = 1
  ·rw [decide_eq_true e, beq_iff_eq]; omega
  ·rw [decide_eq_false e, beq_eq_false_iff_ne]; omega
 have hM := flM_lt b
 have hE := flE_lt b
 obtain ⟨hX1, hX2⟩ := flX_bd b h
 have hT := fun w => r_two_calls hX1 hX2 w
 have sT := twoQ_sz hX1 hX2
 rw [← flQ_ref]
 by_cases h0 : flE b = 0
 ·have eX : flX b = 1 := by unfold flX; rw [if_pos h0]
  have eN : flN b = flM b := by unfold flN; rw [if_pos h0]
  rw [h0] at H2
  rw [show ((flX b : Nat) : Int) - 1075 = -1074 by omega] at hT
  by_cases hS : flS b = true
  ·rw [if_pos hS]; rw [hS] at HS
   exact rfloat_lown (E := 0) H1 HS H2 hM eN hT sT w
  ·rw [if_neg hS]; rw [Bool.eq_false_iff.2 hS] at HS
   exact rfloat_lowp (E := 0) H1 HS H2 hM eN hT sT w
 ·have eX : flX b = flE b := by unfold flX; rw [if_neg h0]
  have eN : flN b = flM b + 4503599627370496 := by unfold flN; rw [if_neg h0]
  rw [eX] at hT sT ⊢
  by_cases hS : flS b = true
  ·rw [if_pos hS]; rw [hS] at HS
   exact rfloat_highn H1 HS H2 hM eN (by omega) (by omega) hT sT w
  ·rw [if_neg hS]; rw [Bool.eq_false_iff.2 hS] at HS
   exact rfloat_highp H1 HS H2 hM eN (by omega) (by omega) hT sT w
end Go.Proofs.YtkfekkhhfpkfaaaGreat
