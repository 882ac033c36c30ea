/-
  Law 07: span: a range of plain data, the program's and the reference's one.
-/
import Derived.Test.YtkfekkhhfpkfaaaGreatPkRangeHQ
import Derived.Test.YtkfekkhhfpkfaaaGreatPkRangeQ
import Derived.Test.YtkfekkhhfpkfaaaGreatPkLawQ
import Derived.Test.YtkfekkhhfpkfaaaGreatPkHeldQ
import Derived.Test.YtkfekkhhfpkfaaaGreatPkGrQ
set_option linter.unusedSimpArgs false
set_option linter.unusedVariables false
set_option maxRecDepth 100000
set_option maxHeartbeats 16000000
namespace Go.Proofs.YtkfekkhhfpkfaaaGreat
open Go.RowKit Dg
attribute [local go_sem ↓] Go.wp_at_zero Go.wp_at_succ
theorem mnL2 (x y : Rat) : mnL [x, x, y, y] 3 = mnQ x y := by
 have e : mnL [x, x, y, y] 3 = if y < (if y < (if x < x then x else x) then y else (if x < x then x else x)) then y else (if y < (if x < x then x else x) then y else (if x < x then x else x)) := rfl
 rw [e, if_neg (Rat.lt_irrefl (a := x))]
 unfold mnQ
 by_cases h : y < x
 ·rw [if_pos h, if_neg (Rat.lt_irrefl (a := y)), if_neg (Rat.not_le.2 h)]
 ·rw [if_neg h, if_neg h, if_pos (Rat.not_lt.1 h)]
theorem mxL2 (x y : Rat) : mxL [x, x, y, y] 3 = mxQ x y := by
 have e : mxL [x, x, y, y] 3 = if (if (if x < x then x else x) < y then y else (if x < x then x else x)) < y then y else (if (if x < x then x else x) < y then y else (if x < x then x else x)) := rfl
 rw [e, if_neg (Rat.lt_irrefl (a := x))]
 unfold mxQ
 by_cases h : x < y
 ·rw [if_pos h, if_neg (Rat.lt_irrefl (a := y)), if_neg (Rat.not_le.2 h)]
 ·rw [if_neg h, if_neg h, if_pos (Rat.not_lt.1 h)]
theorem r_Only_ {w : World} {v : Value} {x : Rat} (h : RV w v x) : Calls Tryz.prog 93 #[v] w (Ret1 (fun w v => RV2 w v x x) w) := r_Only _ _ _ h
theorem p_Only_ {w : World} {v : Value} {x : Rat} (h : PV w v x) : Calls Tryz.prog 90 #[v] w (Ret1 (fun w v => PV2 w v x x) w) := p_Only _ _ _ h
theorem l7_span (n1 d1 n2 d2 : Int) (w : World) (h1 : n1.natAbs < 4294967296) (k1 : d1.natAbs < 4294967296 ∨ d1 ≤ 0 ∧ -9223372036854775808 ≤ d1) (h2 : n2.natAbs < 4294967296) (k2 : d2.natAbs < 4294967296 ∨ d2 ≤ 0 ∧ -9223372036854775808 ≤ d2) :
  Calls Tryz.prog 31 #[.agg #[.int .i64 n1, .int .i64 d1, .int .i64 n2, .int .i64 d2]] w (Ret2 (fun w v => PV2 w v (mnQ (fracQ n1 d1) (fracQ n2 d2)) (mxQ (fracQ n1 d1) (fracQ n2 d2))) (fun w v => RV2 w v (mnQ (fracQ n1 d1) (fracQ n2 d2)) (mxQ (fracQ n1 d1) (fracQ n2 d2))) w) := by
 have hs := Below.refl w.heap.size w
 have z1 : SzQ 1 (fracQ n1 d1) := szQ_fracQ h1 (by omega)
 have z2 : SzQ 1 (fracQ n2 d2) := szQ_fracQ h2 (by omega)
 go_enter Tryz.func31, Tryz.ntmps31
 go_upto_region 1 with fail
 refine Code.abs ?_
 intro w1 hW
 have hG : Gr [] w w1 := by rw [hW]; exact (Gr.refl _ _).alloc.alloc.alloc
 have Bh : Below w.heap.size w w1 := hG.below0 hs.size
 have hk : KeepD w w1 := hG.keep True.intro
 have sz_w1 : w.heap.size ≤ w.heap.size := hs.size
 have B5 : Bx w1 (w.heap.size) 68 #[.int .i64 n1, .int .i64 d1, .int .i64 n2, .int .i64 d2] := by rw [hW]; exact (((Bx.new0 _ _ _).alloc _).alloc _)
 have Blk : Bx w1 (w.heap.size + 1) 85 #[.bool false, .slice none 0 0, .slice none 0 0, .bool false, .slice none 0 0, .slice none 0 0] := by rw [hW]; exact ((Bx.new0 _ _ _).alloc _)
 have B0 : Bx w1 (w.heap.size + 1 + 1) 87 #[.bool false, .slice none 0 0, .slice none 0 0, .bool false, .slice none 0 0, .slice none 0 0] := by rw [hW]; exact (Bx.new0 _ _ _)
 replace hs := hs.trans Bh
 clear hW hG hk Bh
 have hz_w1 := B0.lt
 refine U_region (S := fun w' => w'.cell? ⟨w.heap.size, 0, none⟩ = some (.int .i64 n1) ∧ w'.cell? ⟨w.heap.size, 1, none⟩ = some (.int .i64 d1) ∧ w'.cell? ⟨w.heap.size, 2, none⟩ = some (.int .i64 n2) ∧ w'.cell? ⟨w.heap.size, 3, none⟩ = some (.int .i64 d2)) (by kernel_rfl) 19 ?_
 refine AnyU.abs ?_
 intro w2 hW
 have hb : Below w1.heap.size w1 w2 := by rw [hW]; exact bDrew _
 replace hs := bStep hs hb
 replace B5 := B5.mono hb
 replace Blk := Blk.mono hb
 replace B0 := B0.mono hb
 clear hb hW
 have B1 := B5.a0
 have B2 := B5.a1
 have B3 := B5.a2
 have B4 := B5.a3
 have hH := (show w2.cell? ⟨w.heap.size, 0, none⟩ = some (.int .i64 n1) ∧ w2.cell? ⟨w.heap.size, 1, none⟩ = some (.int .i64 d1) ∧ w2.cell? ⟨w.heap.size, 2, none⟩ = some (.int .i64 n2) ∧ w2.cell? ⟨w.heap.size, 3, none⟩ = some (.int .i64 d2) from ⟨B1, B2, B3, B4⟩)
 refine U_take (i := 0) (v := ?_) rfl (by kernel_rfl) (by kernel_rfl) (by kernel_rfl) (by kernel_rfl) (fun _ _ _ h => h) (Or.inl ⟨by rfl, ?_⟩) hH ?_
 rotate_left
 ·intro w Bd
  try dsimp only at Bd
  go_simp
  try with_reducible rfl
 try simp only [Act.put, List.setIfInBounds_toArray, List.set_cons_zero, List.set_cons_succ]
 refine U_take (i := 1) (v := ?_) rfl (by kernel_rfl) (by kernel_rfl) (by kernel_rfl) (by kernel_rfl) (fun _ _ _ h => h) (Or.inl ⟨by rfl, ?_⟩) hH ?_
 rotate_left
 ·intro w Bd
  try dsimp only at Bd
  go_simp
  try with_reducible rfl
 try simp only [Act.put, List.setIfInBounds_toArray, List.set_cons_zero, List.set_cons_succ]
 refine U_take (i := 4) (v := ?_) rfl (by kernel_rfl) (by kernel_rfl) (by kernel_rfl) (by kernel_rfl) (fun _ _ _ h => h) (Or.inl ⟨by rfl, ?_⟩) hH ?_
 rotate_left
 ·intro w Bd
  try dsimp only at Bd
  go_simp
  try with_reducible rfl
 try simp only [Act.put, List.setIfInBounds_toArray, List.set_cons_zero, List.set_cons_succ]
 refine U_take (i := 5) (v := ?_) rfl (by kernel_rfl) (by kernel_rfl) (by kernel_rfl) (by kernel_rfl) (fun _ _ _ h => h) (Or.inl ⟨by rfl, ?_⟩) hH ?_
 rotate_left
 ·intro w Bd
  try dsimp only at Bd
  go_simp
  try with_reducible rfl
 try simp only [Act.put, List.setIfInBounds_toArray, List.set_cons_zero, List.set_cons_succ]
 refine U_take (i := 9) (v := ?_) rfl (by kernel_rfl) (by kernel_rfl) (by kernel_rfl) (by kernel_rfl) (fun _ _ _ h => h) (Or.inl ⟨by rfl, ?_⟩) hH ?_
 rotate_left
 ·intro w Bd
  try dsimp only at Bd
  go_simp
  try with_reducible rfl
 try simp only [Act.put, List.setIfInBounds_toArray, List.set_cons_zero, List.set_cons_succ]
 refine U_take (i := 10) (v := ?_) rfl (by kernel_rfl) (by kernel_rfl) (by kernel_rfl) (by kernel_rfl) (fun _ _ _ h => h) (Or.inl ⟨by rfl, ?_⟩) hH ?_
 rotate_left
 ·intro w Bd
  try dsimp only at Bd
  go_simp
  try with_reducible rfl
 try simp only [Act.put, List.setIfInBounds_toArray, List.set_cons_zero, List.set_cons_succ]
 refine U_take (i := 13) (v := ?_) rfl (by kernel_rfl) (by kernel_rfl) (by kernel_rfl) (by kernel_rfl) (fun _ _ _ h => h) (Or.inl ⟨by rfl, ?_⟩) hH ?_
 rotate_left
 ·intro w Bd
  try dsimp only at Bd
  go_simp
  try with_reducible rfl
 try simp only [Act.put, List.setIfInBounds_toArray, List.set_cons_zero, List.set_cons_succ]
 refine U_take (i := 14) (v := ?_) rfl (by kernel_rfl) (by kernel_rfl) (by kernel_rfl) (by kernel_rfl) (fun _ _ _ h => h) (Or.inl ⟨by rfl, ?_⟩) hH ?_
 rotate_left
 ·intro w Bd
  try dsimp only at Bd
  go_simp
  try with_reducible rfl
 try simp only [Act.put, List.setIfInBounds_toArray, List.set_cons_zero, List.set_cons_succ]
 clear hH
 refine U_one (i := 2) (by kernel_rfl) rfl (fun K hK => ?_)
 go_simp
 (with_reducible refine (l7_of n1 d1 _ (by omega) (by omega) (by omega) (by omega)).mono ?_)
 rintro e w3 ⟨_, rfl, h1, hb⟩
 obtain ⟨sh1, ah1, nh1, ch1, Ah1, Nh1, Ch1, rfl⟩ := h1.shape
 replace hs := bStep hs hb
 replace B5 := B5.mono hb
 replace Blk := Blk.mono hb
 replace B0 := B0.mono hb
 replace B1 := cellK B1 hb
 replace B2 := cellK B2 hb
 replace B3 := cellK B3 hb
 replace B4 := cellK B4 hb
 clear hb
 try go_wp2_with fail
 refine hK.out _ _ ⟨B1, B2, B3, B4⟩ (fun hH => ?_)
 clear hK K
 try simp only [Act.put, List.setIfInBounds_toArray, List.set_cons_zero, List.set_cons_succ]
 clear hH
 refine U_one (i := 3) (by kernel_rfl) rfl (fun K hK => ?_)
 go_simp
 (with_reducible refine (p_Only_ h1).mono ?_)
 rintro e w4 ⟨_, rfl, h2, hb⟩
 obtain ⟨sh2a, ah2a, nh2a, ch2a, Ah2a, Nh2a, Ch2a, sh2b, ah2b, nh2b, ch2b, Ah2b, Nh2b, Ch2b, rfl, B6, B7⟩ := h2.shape
 replace hs := bStep hs hb
 replace B5 := B5.mono hb
 replace Blk := Blk.mono hb
 replace B0 := B0.mono hb
 replace h1 := h1.mono hb
 replace B1 := cellK B1 hb
 replace B2 := cellK B2 hb
 replace B3 := cellK B3 hb
 replace B4 := cellK B4 hb
 clear hb
 try go_wp2_with fail
 refine hK.out _ _ ⟨B1, B2, B3, B4⟩ (fun hH => ?_)
 clear hK K
 try simp only [Act.put, List.setIfInBounds_toArray, List.set_cons_zero, List.set_cons_succ]
 clear hH
 refine U_one (i := 6) (by kernel_rfl) rfl (fun K hK => ?_)
 go_simp
 (with_reducible refine (l7_of n2 d2 _ (by omega) (by omega) (by omega) (by omega)).mono ?_)
 rintro e w5 ⟨_, rfl, h3, hb⟩
 obtain ⟨sh3, ah3, nh3, ch3, Ah3, Nh3, Ch3, rfl⟩ := h3.shape
 replace hs := bStep hs hb
 replace B5 := B5.mono hb
 replace Blk := Blk.mono hb
 replace B0 := B0.mono hb
 replace h1 := h1.mono hb
 replace B6 := B6.mono hb
 replace B7 := B7.mono hb
 replace B1 := cellK B1 hb
 replace B2 := cellK B2 hb
 replace B3 := cellK B3 hb
 replace B4 := cellK B4 hb
 clear hb
 try go_wp2_with fail
 refine hK.out _ _ ⟨B1, B2, B3, B4⟩ (fun hH => ?_)
 clear hK K
 try simp only [Act.put, List.setIfInBounds_toArray, List.set_cons_zero, List.set_cons_succ]
 clear hH
 refine U_one (i := 7) (by kernel_rfl) rfl (fun K hK => ?_)
 go_simp
 (with_reducible refine (p_Only_ h3).mono ?_)
 rintro e w6 ⟨_, rfl, h4, hb⟩
 obtain ⟨sh4a, ah4a, nh4a, ch4a, Ah4a, Nh4a, Ch4a, sh4b, ah4b, nh4b, ch4b, Ah4b, Nh4b, Ch4b, rfl, B8, B9⟩ := h4.shape
 replace hs := bStep hs hb
 replace B5 := B5.mono hb
 replace Blk := Blk.mono hb
 replace B0 := B0.mono hb
 replace h1 := h1.mono hb
 replace B6 := B6.mono hb
 replace B7 := B7.mono hb
 replace h3 := h3.mono hb
 replace B1 := cellK B1 hb
 replace B2 := cellK B2 hb
 replace B3 := cellK B3 hb
 replace B4 := cellK B4 hb
 clear hb
 try go_wp2_with fail
 refine hK.out _ _ ⟨B1, B2, B3, B4⟩ (fun hH => ?_)
 clear hK K
 try simp only [Act.put, List.setIfInBounds_toArray, List.set_cons_zero, List.set_cons_succ]
 clear hH
 refine U_one (i := 8) (by kernel_rfl) rfl (fun K hK => ?_)
 go_simp
 (with_reducible refine (p_Hull _ _ _ _ _ _ _ (PV2.mk B6 B7) (SzQ.mid z1) (SzQ.mid z1) (PV2.mk B8 B9) (SzQ.mid z2) (SzQ.mid z2)).mono ?_)
 rintro e w7 ⟨_, rfl, h5, hb⟩
 obtain ⟨Cd, C1, C9, C5, Bo, Bw, Bs, Ce, C2, Ca, C6, Bp, By, Bt, rfl, Bb, Bc⟩ := h5.shape
 replace hs := bStep hs hb
 replace B5 := B5.mono hb
 replace Blk := Blk.mono hb
 replace B0 := B0.mono hb
 replace h1 := h1.mono hb
 replace B6 := B6.mono hb
 replace B7 := B7.mono hb
 replace h3 := h3.mono hb
 replace B8 := B8.mono hb
 replace B9 := B9.mono hb
 replace B1 := cellK B1 hb
 replace B2 := cellK B2 hb
 replace B3 := cellK B3 hb
 replace B4 := cellK B4 hb
 clear hb
 try go_wp2_with fail
 refine hK.out _ _ ⟨B1, B2, B3, B4⟩ (fun hH => ?_)
 clear hK K
 try simp only [Act.put, List.setIfInBounds_toArray, List.set_cons_zero, List.set_cons_succ]
 clear hH
 refine U_one (i := 11) (by kernel_rfl) rfl (fun K hK => ?_)
 go_simp
 (with_reducible refine (r_Of_calls n1 d1 _ (by omega) (by omega) (by omega) (by omega)).mono ?_)
 rintro e w8 ⟨_, rfl, h6, hb⟩
 obtain ⟨sh6, ah6, nh6, ch6, Ah6, Nh6, Ch6, rfl⟩ := h6.shape
 replace hs := bStep hs hb
 replace B5 := B5.mono hb
 replace Blk := Blk.mono hb
 replace B0 := B0.mono hb
 replace h1 := h1.mono hb
 replace B6 := B6.mono hb
 replace B7 := B7.mono hb
 replace h3 := h3.mono hb
 replace B8 := B8.mono hb
 replace B9 := B9.mono hb
 replace Bb := Bb.mono hb
 replace Bc := Bc.mono hb
 replace B1 := cellK B1 hb
 replace B2 := cellK B2 hb
 replace B3 := cellK B3 hb
 replace B4 := cellK B4 hb
 clear hb
 try go_wp2_with fail
 refine hK.out _ _ ⟨B1, B2, B3, B4⟩ (fun hH => ?_)
 clear hK K
 try simp only [Act.put, List.setIfInBounds_toArray, List.set_cons_zero, List.set_cons_succ]
 clear hH
 refine U_one (i := 12) (by kernel_rfl) rfl (fun K hK => ?_)
 go_simp
 (with_reducible refine (r_Only_ h6).mono ?_)
 rintro e w9 ⟨_, rfl, h7, hb⟩
 obtain ⟨sh7a, ah7a, nh7a, ch7a, Ah7a, Nh7a, Ch7a, sh7b, ah7b, nh7b, ch7b, Ah7b, Nh7b, Ch7b, rfl, Be, Bf⟩ := h7.shape
 replace hs := bStep hs hb
 replace B5 := B5.mono hb
 replace Blk := Blk.mono hb
 replace B0 := B0.mono hb
 replace h1 := h1.mono hb
 replace B6 := B6.mono hb
 replace B7 := B7.mono hb
 replace h3 := h3.mono hb
 replace B8 := B8.mono hb
 replace B9 := B9.mono hb
 replace Bb := Bb.mono hb
 replace Bc := Bc.mono hb
 replace h6 := h6.mono hb
 replace B1 := cellK B1 hb
 replace B2 := cellK B2 hb
 replace B3 := cellK B3 hb
 replace B4 := cellK B4 hb
 clear hb
 try go_wp2_with fail
 refine hK.out _ _ ⟨B1, B2, B3, B4⟩ (fun hH => ?_)
 clear hK K
 try simp only [Act.put, List.setIfInBounds_toArray, List.set_cons_zero, List.set_cons_succ]
 clear hH
 refine U_one (i := 15) (by kernel_rfl) rfl (fun K hK => ?_)
 go_simp
 (with_reducible refine (r_Of_calls n2 d2 _ (by omega) (by omega) (by omega) (by omega)).mono ?_)
 rintro e w10 ⟨_, rfl, h8, hb⟩
 obtain ⟨sh8, ah8, nh8, ch8, Ah8, Nh8, Ch8, rfl⟩ := h8.shape
 replace hs := bStep hs hb
 replace B5 := B5.mono hb
 replace Blk := Blk.mono hb
 replace B0 := B0.mono hb
 replace h1 := h1.mono hb
 replace B6 := B6.mono hb
 replace B7 := B7.mono hb
 replace h3 := h3.mono hb
 replace B8 := B8.mono hb
 replace B9 := B9.mono hb
 replace Bb := Bb.mono hb
 replace Bc := Bc.mono hb
 replace h6 := h6.mono hb
 replace Be := Be.mono hb
 replace Bf := Bf.mono hb
 replace B1 := cellK B1 hb
 replace B2 := cellK B2 hb
 replace B3 := cellK B3 hb
 replace B4 := cellK B4 hb
 clear hb
 try go_wp2_with fail
 refine hK.out _ _ ⟨B1, B2, B3, B4⟩ (fun hH => ?_)
 clear hK K
 try simp only [Act.put, List.setIfInBounds_toArray, List.set_cons_zero, List.set_cons_succ]
 clear hH
 refine U_one (i := 16) (by kernel_rfl) rfl (fun K hK => ?_)
 go_simp
 (with_reducible refine (r_Only_ h8).mono ?_)
 rintro e w11 ⟨_, rfl, h9, hb⟩
 obtain ⟨sh9a, ah9a, nh9a, ch9a, Ah9a, Nh9a, Ch9a, sh9b, ah9b, nh9b, ch9b, Ah9b, Nh9b, Ch9b, rfl, Bk, Bl⟩ := h9.shape
 replace hs := bStep hs hb
 replace B5 := B5.mono hb
 replace Blk := Blk.mono hb
 replace B0 := B0.mono hb
 replace h1 := h1.mono hb
 replace B6 := B6.mono hb
 replace B7 := B7.mono hb
 replace h3 := h3.mono hb
 replace B8 := B8.mono hb
 replace B9 := B9.mono hb
 replace Bb := Bb.mono hb
 replace Bc := Bc.mono hb
 replace h6 := h6.mono hb
 replace Be := Be.mono hb
 replace Bf := Bf.mono hb
 replace h8 := h8.mono hb
 replace B1 := cellK B1 hb
 replace B2 := cellK B2 hb
 replace B3 := cellK B3 hb
 replace B4 := cellK B4 hb
 clear hb
 try go_wp2_with fail
 refine hK.out _ _ ⟨B1, B2, B3, B4⟩ (fun hH => ?_)
 clear hK K
 try simp only [Act.put, List.setIfInBounds_toArray, List.set_cons_zero, List.set_cons_succ]
 clear hH
 refine U_one (i := 17) (by kernel_rfl) rfl (fun K hK => ?_)
 go_simp
 (with_reducible refine (r_Hull _ _ _ _ _ _ _ (RV2.mk Be Bf) (SzQ.mid z1) (SzQ.mid z1) (RV2.mk Bk Bl) (SzQ.mid z2) (SzQ.mid z2)).mono ?_)
 rintro e Bg ⟨_, rfl, h10, hb⟩
 obtain ⟨Cb, Bz, C7, C3, Bm, Bu, Bq, Cc, C0, C8, C4, Bn, Bv, Br, rfl, Bi, Bj⟩ := h10.shape
 replace hs := bStep hs hb
 replace B5 := B5.mono hb
 replace Blk := Blk.mono hb
 replace B0 := B0.mono hb
 replace h1 := h1.mono hb
 replace B6 := B6.mono hb
 replace B7 := B7.mono hb
 replace h3 := h3.mono hb
 replace B8 := B8.mono hb
 replace B9 := B9.mono hb
 replace Bb := Bb.mono hb
 replace Bc := Bc.mono hb
 replace h6 := h6.mono hb
 replace Be := Be.mono hb
 replace Bf := Bf.mono hb
 replace h8 := h8.mono hb
 replace Bk := Bk.mono hb
 replace Bl := Bl.mono hb
 replace B1 := cellK B1 hb
 replace B2 := cellK B2 hb
 replace B3 := cellK B3 hb
 replace B4 := cellK B4 hb
 clear hb
 try go_wp2_with fail
 refine hK.out _ _ ⟨B1, B2, B3, B4⟩ (fun hH => ?_)
 clear hK K
 try simp only [Act.put, List.setIfInBounds_toArray, List.set_cons_zero, List.set_cons_succ]
 clear hH
 have Cn := Blk.a0
 have Co := Blk.a1
 have Cp := Blk.a2
 have Cq := Blk.a3
 have Cr := Blk.a4
 have Cs := Blk.a5
 have fk := Blk.free
 have Lk := Blk.lt
 refine U_one (i := 18) (by kernel_rfl) rfl (fun K hK => ?_)
 go_simp
 generalize hW_ : ((((((Bg.setCell ⟨w.heap.size + 1, 0, none⟩ (.bool Cd)).setCell ⟨w.heap.size + 1, 1, none⟩ (.slice C1 C9 C5)).setCell ⟨w.heap.size + 1, 2, none⟩ (.slice Bo Bw Bs)).setCell ⟨w.heap.size + 1, 3, none⟩ (.bool Ce)).setCell ⟨w.heap.size + 1, 4, none⟩ (.slice C2 Ca C6)).setCell ⟨w.heap.size + 1, 5, none⟩ (.slice Bp By Bt)) = w13
 have hW := hW_.symm
 clear hW_
 have hG : Gr [w.heap.size + 1] Bg w13 := by rw [hW]; exact (Gr.refl _ _).set.set.set.set.set.set
 have hsz := hs.size
 have lk := Blk.lt
 have Bh : Below w.heap.size Bg w13 := hG.below1 hs.size (by first | omega | assumption)
 have hk : KeepD Bg w13 := hG.keep ⟨⟨_, Blk.ty, by decide⟩, True.intro⟩
 have Cm : Bx w13 (w.heap.size + 1) 85 #[.bool Cd, .slice C1 C9 C5, .slice Bo Bw Bs, .bool Ce, .slice C2 Ca C6, .slice Bp By Bt] := by rw [hW]; exact Blk.set6
 replace hs := hs.trans Bh
 replace B5 := hG.bx B5 (notMem1 (by omega))
 replace B0 := hG.bx B0 (notMem1 (by omega))
 replace Blk := Cm
 clear Cm
 replace h1 := h1.keep hk
 replace B6 := B6.keep hk
 replace B7 := B7.keep hk
 replace h3 := h3.keep hk
 replace B8 := B8.keep hk
 replace B9 := B9.keep hk
 replace Bb := Bb.keep hk
 replace Bc := Bc.keep hk
 replace h6 := h6.keep hk
 replace Be := Be.keep hk
 replace Bf := Bf.keep hk
 replace h8 := h8.keep hk
 replace Bk := Bk.keep hk
 replace Bl := Bl.keep hk
 replace Bi := Bi.keep hk
 replace Bj := Bj.keep hk
 replace B1 := hG.cell B1 (notMem1 (by dsimp only; omega))
 replace B2 := hG.cell B2 (notMem1 (by dsimp only; omega))
 replace B3 := hG.cell B3 (notMem1 (by dsimp only; omega))
 replace B4 := hG.cell B4 (notMem1 (by dsimp only; omega))
 clear hW hG hk Bh hsz lk
 refine hK.out _ _ ⟨B1, B2, B3, B4⟩ (fun hH => ?_)
 clear hK K
 try simp only [Act.put, List.setIfInBounds_toArray, List.set_cons_zero, List.set_cons_succ]
 clear hH
 have Cg := B0.a0
 have Ch := B0.a1
 have Ci := B0.a2
 have Cj := B0.a3
 have Ck := B0.a4
 have Cl := B0.a5
 have fk2 := B0.free
 have Lk2 := B0.lt
 refine U_last (by kernel_rfl) rfl (by kernel_rfl) (fun K hK => ?_)
 go_simp
 refine hK.out _ _ ?_
 clear hK K
 intro Ba hW
 have hG : Gr [w.heap.size + 1 + 1] w13 Ba := by rw [hW]; exact (Gr.refl _ _).set.set.set.set.set.set
 have hsz := hs.size
 have lk2 := B0.lt
 have Bh : Below w.heap.size w13 Ba := hG.below1 hs.size (by first | omega | assumption)
 have hk : KeepD w13 Ba := hG.keep ⟨⟨_, B0.ty, by decide⟩, True.intro⟩
 have Cf : Bx Ba (w.heap.size + 1 + 1) 87 #[.bool Cb, .slice Bz C7 C3, .slice Bm Bu Bq, .bool Cc, .slice C0 C8 C4, .slice Bn Bv Br] := by rw [hW]; exact B0.set6
 replace hs := hs.trans Bh
 replace B5 := hG.bx B5 (notMem1 (by omega))
 replace Blk := hG.bx Blk (notMem1 (by omega))
 replace B0 := Cf
 clear Cf
 replace h1 := h1.keep hk
 replace B6 := B6.keep hk
 replace B7 := B7.keep hk
 replace h3 := h3.keep hk
 replace B8 := B8.keep hk
 replace B9 := B9.keep hk
 replace Bb := Bb.keep hk
 replace Bc := Bc.keep hk
 replace h6 := h6.keep hk
 replace Be := Be.keep hk
 replace Bf := Bf.keep hk
 replace h8 := h8.keep hk
 replace Bk := Bk.keep hk
 replace Bl := Bl.keep hk
 replace Bi := Bi.keep hk
 replace Bj := Bj.keep hk
 clear hW hG hk Bh hsz lk2
 try simp only [Act.put, List.setIfInBounds_toArray, List.set_cons_zero, List.set_cons_succ]
 clear B1 B2 B3 B4
 go_wp2
 have Cn := Blk.a0
 have Co := Blk.a1
 have Cp := Blk.a2
 have Cq := Blk.a3
 have Cr := Blk.a4
 have Cs := Blk.a5
 have Cg := B0.a0
 have Ch := B0.a1
 have Ci := B0.a2
 have Cj := B0.a3
 have Ck := B0.a4
 have Cl := B0.a5
 exact bodyPost_ret (v := .tuple #[.agg #[.bool Cd, .slice C1 C9 C5, .slice Bo Bw Bs, .bool Ce, .slice C2 Ca C6, .slice Bp By Bt], .agg #[.bool Cb, .slice Bz C7 C3, .slice Bm Bu Bq, .bool Cc, .slice C0 C8 C4, .slice Bn Bv Br]]) (by simp [results, Tryz.results31, go_sem, Cn, Co, Cp, Cq, Cr, Cs, Cg, Ch, Ci, Cj, Ck, Cl]) rfl ⟨_, _, rfl, PV2.mk (Bb.of_eq (mnL2 _ _)) (Bc.of_eq (mxL2 _ _)), RV2.mk Bi Bj, hs⟩
end Go.Proofs.YtkfekkhhfpkfaaaGreat
namespace Go.Proofs.YtkfekkhhfpkfaaaGreat
open Go.RowKit Dg
attribute [local go_sem ↓] Go.wp_at_zero Go.wp_at_succ
theorem numR_info : (Tryz.prog.info? 38).map (fun i => (i.zero, i.size, i.bytes)) = some (some (.agg #[.bool false, .slice none 0 0, .slice none 0 0]), 3, 56) := by kernel_rfl
end Go.Proofs.YtkfekkhhfpkfaaaGreat
