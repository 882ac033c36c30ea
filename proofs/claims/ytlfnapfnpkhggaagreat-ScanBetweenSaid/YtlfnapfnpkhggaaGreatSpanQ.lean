/-
  Law 07: span: a range of plain data, the program's and the reference's one.
-/
import Derived.Test.YtlfnapfnpkhggaaGreatPkRangeHQ
import Derived.Test.YtlfnapfnpkhggaaGreatRangeRQ
import Derived.Test.YtlfnapfnpkhggaaGreatPkLawQ
set_option linter.unusedSimpArgs false
set_option linter.unusedVariables false
namespace Go.Proofs.YtlfnapfnpkhggaaGreat
open Go.RowKit Dg
attribute [local go_sem ↓] Go.wp_at_zero Go.wp_at_succ

theorem mnL2 (x y : Rat) : mnL [x, x, y, y] 3 = mnQ x y := by
  have e : mnL [x, x, y, y] 3 = if y < (if y < (if x < x then x else x) then y else (if x < x then x else x)) then y else (if y < (if x < x then x else x) then y else (if x < x then x else x)) := rfl
  rw [e, if_neg (Rat.lt_irrefl (a := x))]
  unfold mnQ
  by_cases h : y < x
  · rw [if_pos h, if_neg (Rat.lt_irrefl (a := y)), if_neg (Rat.not_le.2 h)]
  · rw [if_neg h, if_neg h, if_pos (Rat.not_lt.1 h)]
theorem mxL2 (x y : Rat) : mxL [x, x, y, y] 3 = mxQ x y := by
  have e : mxL [x, x, y, y] 3 = if (if (if x < x then x else x) < y then y else (if x < x then x else x)) < y then y else (if (if x < x then x else x) < y then y else (if x < x then x else x)) := rfl
  rw [e, if_neg (Rat.lt_irrefl (a := x))]
  unfold mxQ
  by_cases h : x < y
  · rw [if_pos h, if_neg (Rat.lt_irrefl (a := y)), if_neg (Rat.not_le.2 h)]
  · rw [if_neg h, if_neg h, if_pos (Rat.not_lt.1 h)]
theorem r_Only_ {w : World} {v : Value} {x : Rat} (h : RV w v x) : Calls Tryz.prog 104 #[v] w (Ret1 (fun w v => RV2 w v x x) w) := r_Only _ _ _ h
theorem p_Only_ {w : World} {v : Value} {x : Rat} (h : PV w v x) : Calls Tryz.prog 46 #[v] w (Ret1 (fun w v => PV2 w v x x) w) := p_Only _ _ _ h

set_option maxRecDepth 100000 in
set_option maxHeartbeats 16000000 in
theorem l7_span (n1 d1 n2 d2 : Int) (w : World) (h1 : n1.natAbs < 4294967296) (k1 : d1.natAbs < 4294967296 ∨ d1 ≤ 0 ∧ -9223372036854775808 ≤ d1) (h2 : n2.natAbs < 4294967296) (k2 : d2.natAbs < 4294967296 ∨ d2 ≤ 0 ∧ -9223372036854775808 ≤ d2) :
    Calls Tryz.prog 31 #[.agg #[.int .i64 n1, .int .i64 d1, .int .i64 n2, .int .i64 d2]] w (Ret2 (fun w v => PV2 w v (mnQ (fracQ n1 d1) (fracQ n2 d2)) (mxQ (fracQ n1 d1) (fracQ n2 d2))) (fun w v => RV2 w v (mnQ (fracQ n1 d1) (fracQ n2 d2)) (mxQ (fracQ n1 d1) (fracQ n2 d2))) w) := by
  have hs := Below.refl w.heap.size w
  have z1 : SzQ 1 (fracQ n1 d1) := szQ_fracQ h1 (by omega)
  have z2 : SzQ 1 (fracQ n2 d2) := szQ_fracQ h2 (by omega)
  go_enter Tryz.func31, Tryz.ntmps31
  go_upto_region 1 with fail
  refine Code.abs ?_
  intro w1 hW
  have hG : Gr [] w w1 := by rw [hW]; exact (Gr.refl _ _).alloc.alloc.alloc
  have hbw : Below w.heap.size w w1 := hG.below0 hs.size
  have hk : KeepD w w1 := hG.keep True.intro
  have sz_w1 : w.heap.size ≤ w.heap.size := hs.size
  have Blx : Bx w1 (w.heap.size) 83 #[.int .i64 n1, .int .i64 d1, .int .i64 n2, .int .i64 d2] := by rw [hW]; exact (((Bx.new0 _ _ _).alloc _).alloc _)
  have Blk : Bx w1 (w.heap.size + 1) 86 #[.bool false, .slice none 0 0, .slice none 0 0, .bool false, .slice none 0 0, .slice none 0 0] := by rw [hW]; exact ((Bx.new0 _ _ _).alloc _)
  have Blk2 : Bx w1 (w.heap.size + 1 + 1) 88 #[.bool false, .slice none 0 0, .slice none 0 0, .bool false, .slice none 0 0, .slice none 0 0] := by rw [hW]; exact (Bx.new0 _ _ _)
  replace hs := hs.trans hbw
  clear hW hG hk hbw
  have hz_w1 : w.heap.size + 1 + 1 < w1.heap.size := Blk2.lt
  refine U_region (S := fun w' => w'.cell? ⟨w.heap.size, 0, none⟩ = some (.int .i64 n1) ∧ w'.cell? ⟨w.heap.size, 1, none⟩ = some (.int .i64 d1) ∧ w'.cell? ⟨w.heap.size, 2, none⟩ = some (.int .i64 n2) ∧ w'.cell? ⟨w.heap.size, 3, none⟩ = some (.int .i64 d2)) (by kernel_rfl) 19 ?_
  refine AnyU.abs ?_
  intro w2 hW
  have hb : Below w1.heap.size w1 w2 := by rw [hW]; exact bDrew _
  replace hs := bStep hs hb
  replace Blx := Blx.mono hb
  replace Blk := Blk.mono hb
  replace Blk2 := Blk2.mono hb
  clear hb hW
  have cx_0 : w2.cell? ⟨w.heap.size, 0, none⟩ = some (.int .i64 n1) := Blx.at 0 rfl
  have cx_1 : w2.cell? ⟨w.heap.size, 1, none⟩ = some (.int .i64 d1) := Blx.at 1 rfl
  have cx_2 : w2.cell? ⟨w.heap.size, 2, none⟩ = some (.int .i64 n2) := Blx.at 2 rfl
  have cx_3 : w2.cell? ⟨w.heap.size, 3, none⟩ = some (.int .i64 d2) := Blx.at 3 rfl
  have hH := (show w2.cell? ⟨w.heap.size, 0, none⟩ = some (.int .i64 n1) ∧ w2.cell? ⟨w.heap.size, 1, none⟩ = some (.int .i64 d1) ∧ w2.cell? ⟨w.heap.size, 2, none⟩ = some (.int .i64 n2) ∧ w2.cell? ⟨w.heap.size, 3, none⟩ = some (.int .i64 d2) from ⟨cx_0, cx_1, cx_2, cx_3⟩)
  refine U_take (i := 0) (v := ?_) rfl (by kernel_rfl) (by kernel_rfl) (by kernel_rfl) (by kernel_rfl) (fun _ _ _ h => h) (Or.inl ⟨by rfl, ?_⟩) hH ?_
  rotate_left
  · intro w hSw
    try dsimp only at hSw
    go_simp
    try with_reducible rfl
  try simp only [Act.put, List.setIfInBounds_toArray, List.set_cons_zero, List.set_cons_succ]
  refine U_take (i := 1) (v := ?_) rfl (by kernel_rfl) (by kernel_rfl) (by kernel_rfl) (by kernel_rfl) (fun _ _ _ h => h) (Or.inl ⟨by rfl, ?_⟩) hH ?_
  rotate_left
  · intro w hSw
    try dsimp only at hSw
    go_simp
    try with_reducible rfl
  try simp only [Act.put, List.setIfInBounds_toArray, List.set_cons_zero, List.set_cons_succ]
  refine U_take (i := 4) (v := ?_) rfl (by kernel_rfl) (by kernel_rfl) (by kernel_rfl) (by kernel_rfl) (fun _ _ _ h => h) (Or.inl ⟨by rfl, ?_⟩) hH ?_
  rotate_left
  · intro w hSw
    try dsimp only at hSw
    go_simp
    try with_reducible rfl
  try simp only [Act.put, List.setIfInBounds_toArray, List.set_cons_zero, List.set_cons_succ]
  refine U_take (i := 5) (v := ?_) rfl (by kernel_rfl) (by kernel_rfl) (by kernel_rfl) (by kernel_rfl) (fun _ _ _ h => h) (Or.inl ⟨by rfl, ?_⟩) hH ?_
  rotate_left
  · intro w hSw
    try dsimp only at hSw
    go_simp
    try with_reducible rfl
  try simp only [Act.put, List.setIfInBounds_toArray, List.set_cons_zero, List.set_cons_succ]
  refine U_take (i := 9) (v := ?_) rfl (by kernel_rfl) (by kernel_rfl) (by kernel_rfl) (by kernel_rfl) (fun _ _ _ h => h) (Or.inl ⟨by rfl, ?_⟩) hH ?_
  rotate_left
  · intro w hSw
    try dsimp only at hSw
    go_simp
    try with_reducible rfl
  try simp only [Act.put, List.setIfInBounds_toArray, List.set_cons_zero, List.set_cons_succ]
  refine U_take (i := 10) (v := ?_) rfl (by kernel_rfl) (by kernel_rfl) (by kernel_rfl) (by kernel_rfl) (fun _ _ _ h => h) (Or.inl ⟨by rfl, ?_⟩) hH ?_
  rotate_left
  · intro w hSw
    try dsimp only at hSw
    go_simp
    try with_reducible rfl
  try simp only [Act.put, List.setIfInBounds_toArray, List.set_cons_zero, List.set_cons_succ]
  refine U_take (i := 13) (v := ?_) rfl (by kernel_rfl) (by kernel_rfl) (by kernel_rfl) (by kernel_rfl) (fun _ _ _ h => h) (Or.inl ⟨by rfl, ?_⟩) hH ?_
  rotate_left
  · intro w hSw
    try dsimp only at hSw
    go_simp
    try with_reducible rfl
  try simp only [Act.put, List.setIfInBounds_toArray, List.set_cons_zero, List.set_cons_succ]
  refine U_take (i := 14) (v := ?_) rfl (by kernel_rfl) (by kernel_rfl) (by kernel_rfl) (by kernel_rfl) (fun _ _ _ h => h) (Or.inl ⟨by rfl, ?_⟩) hH ?_
  rotate_left
  · intro w hSw
    try dsimp only at hSw
    go_simp
    try with_reducible rfl
  try simp only [Act.put, List.setIfInBounds_toArray, List.set_cons_zero, List.set_cons_succ]
  clear hH
  refine U_one (i := 2) (by kernel_rfl) rfl (fun K hK => ?_)
  go_simp
  (with_reducible refine (l7_of n1 d1 _ (by omega) (by omega) (by omega) (by omega)).mono ?_)
  rintro e w3 ⟨_, rfl, h1, hb⟩
  obtain ⟨sh1, ah1, nh1, ch1, Ah1, Nh1, Ch1, rfl⟩ := h1.shape
  replace hs := bStep hs hb
  replace Blx := Blx.mono hb
  replace Blk := Blk.mono hb
  replace Blk2 := Blk2.mono hb
  replace cx_0 := cellK cx_0 hb
  replace cx_1 := cellK cx_1 hb
  replace cx_2 := cellK cx_2 hb
  replace cx_3 := cellK cx_3 hb
  clear hb
  try go_wp2_with fail
  refine hK.out _ _ ⟨cx_0, cx_1, cx_2, cx_3⟩ (fun hH => ?_)
  clear hK K
  try simp only [Act.put, List.setIfInBounds_toArray, List.set_cons_zero, List.set_cons_succ]
  clear hH
  refine U_one (i := 3) (by kernel_rfl) rfl (fun K hK => ?_)
  go_simp
  (with_reducible refine (p_Only_ h1).mono ?_)
  rintro e w4 ⟨_, rfl, h2, hb⟩
  obtain ⟨sh2a, ah2a, nh2a, ch2a, Ah2a, Nh2a, Ch2a, sh2b, ah2b, nh2b, ch2b, Ah2b, Nh2b, Ch2b, rfl, h2a, h2b⟩ := h2.shape
  replace hs := bStep hs hb
  replace Blx := Blx.mono hb
  replace Blk := Blk.mono hb
  replace Blk2 := Blk2.mono hb
  replace h1 := h1.mono hb
  replace cx_0 := cellK cx_0 hb
  replace cx_1 := cellK cx_1 hb
  replace cx_2 := cellK cx_2 hb
  replace cx_3 := cellK cx_3 hb
  clear hb
  try go_wp2_with fail
  refine hK.out _ _ ⟨cx_0, cx_1, cx_2, cx_3⟩ (fun hH => ?_)
  clear hK K
  try simp only [Act.put, List.setIfInBounds_toArray, List.set_cons_zero, List.set_cons_succ]
  clear hH
  refine U_one (i := 6) (by kernel_rfl) rfl (fun K hK => ?_)
  go_simp
  (with_reducible refine (l7_of n2 d2 _ (by omega) (by omega) (by omega) (by omega)).mono ?_)
  rintro e w5 ⟨_, rfl, h3, hb⟩
  obtain ⟨sh3, ah3, nh3, ch3, Ah3, Nh3, Ch3, rfl⟩ := h3.shape
  replace hs := bStep hs hb
  replace Blx := Blx.mono hb
  replace Blk := Blk.mono hb
  replace Blk2 := Blk2.mono hb
  replace h1 := h1.mono hb
  replace h2a := h2a.mono hb
  replace h2b := h2b.mono hb
  replace cx_0 := cellK cx_0 hb
  replace cx_1 := cellK cx_1 hb
  replace cx_2 := cellK cx_2 hb
  replace cx_3 := cellK cx_3 hb
  clear hb
  try go_wp2_with fail
  refine hK.out _ _ ⟨cx_0, cx_1, cx_2, cx_3⟩ (fun hH => ?_)
  clear hK K
  try simp only [Act.put, List.setIfInBounds_toArray, List.set_cons_zero, List.set_cons_succ]
  clear hH
  refine U_one (i := 7) (by kernel_rfl) rfl (fun K hK => ?_)
  go_simp
  (with_reducible refine (p_Only_ h3).mono ?_)
  rintro e w6 ⟨_, rfl, h4, hb⟩
  obtain ⟨sh4a, ah4a, nh4a, ch4a, Ah4a, Nh4a, Ch4a, sh4b, ah4b, nh4b, ch4b, Ah4b, Nh4b, Ch4b, rfl, h4a, h4b⟩ := h4.shape
  replace hs := bStep hs hb
  replace Blx := Blx.mono hb
  replace Blk := Blk.mono hb
  replace Blk2 := Blk2.mono hb
  replace h1 := h1.mono hb
  replace h2a := h2a.mono hb
  replace h2b := h2b.mono hb
  replace h3 := h3.mono hb
  replace cx_0 := cellK cx_0 hb
  replace cx_1 := cellK cx_1 hb
  replace cx_2 := cellK cx_2 hb
  replace cx_3 := cellK cx_3 hb
  clear hb
  try go_wp2_with fail
  refine hK.out _ _ ⟨cx_0, cx_1, cx_2, cx_3⟩ (fun hH => ?_)
  clear hK K
  try simp only [Act.put, List.setIfInBounds_toArray, List.set_cons_zero, List.set_cons_succ]
  clear hH
  refine U_one (i := 8) (by kernel_rfl) rfl (fun K hK => ?_)
  go_simp
  (with_reducible refine (p_Hull _ _ _ _ _ _ _ (PV2.mk h2a h2b) (SzQ.mid z1) (SzQ.mid z1) (PV2.mk h4a h4b) (SzQ.mid z2) (SzQ.mid z2)).mono ?_)
  rintro e w7 ⟨_, rfl, h5, hb⟩
  obtain ⟨sh5a, ah5a, nh5a, ch5a, Ah5a, Nh5a, Ch5a, sh5b, ah5b, nh5b, ch5b, Ah5b, Nh5b, Ch5b, rfl, h5a, h5b⟩ := h5.shape
  replace hs := bStep hs hb
  replace Blx := Blx.mono hb
  replace Blk := Blk.mono hb
  replace Blk2 := Blk2.mono hb
  replace h1 := h1.mono hb
  replace h2a := h2a.mono hb
  replace h2b := h2b.mono hb
  replace h3 := h3.mono hb
  replace h4a := h4a.mono hb
  replace h4b := h4b.mono hb
  replace cx_0 := cellK cx_0 hb
  replace cx_1 := cellK cx_1 hb
  replace cx_2 := cellK cx_2 hb
  replace cx_3 := cellK cx_3 hb
  clear hb
  try go_wp2_with fail
  refine hK.out _ _ ⟨cx_0, cx_1, cx_2, cx_3⟩ (fun hH => ?_)
  clear hK K
  try simp only [Act.put, List.setIfInBounds_toArray, List.set_cons_zero, List.set_cons_succ]
  clear hH
  refine U_one (i := 11) (by kernel_rfl) rfl (fun K hK => ?_)
  go_simp
  (with_reducible refine (r_Of_calls n1 d1 _ (by omega) (by omega) (by omega) (by omega)).mono ?_)
  rintro e w8 ⟨_, rfl, h6, hb⟩
  obtain ⟨sh6, ah6, nh6, ch6, Ah6, Nh6, Ch6, rfl⟩ := h6.shape
  replace hs := bStep hs hb
  replace Blx := Blx.mono hb
  replace Blk := Blk.mono hb
  replace Blk2 := Blk2.mono hb
  replace h1 := h1.mono hb
  replace h2a := h2a.mono hb
  replace h2b := h2b.mono hb
  replace h3 := h3.mono hb
  replace h4a := h4a.mono hb
  replace h4b := h4b.mono hb
  replace h5a := h5a.mono hb
  replace h5b := h5b.mono hb
  replace cx_0 := cellK cx_0 hb
  replace cx_1 := cellK cx_1 hb
  replace cx_2 := cellK cx_2 hb
  replace cx_3 := cellK cx_3 hb
  clear hb
  try go_wp2_with fail
  refine hK.out _ _ ⟨cx_0, cx_1, cx_2, cx_3⟩ (fun hH => ?_)
  clear hK K
  try simp only [Act.put, List.setIfInBounds_toArray, List.set_cons_zero, List.set_cons_succ]
  clear hH
  refine U_one (i := 12) (by kernel_rfl) rfl (fun K hK => ?_)
  go_simp
  (with_reducible refine (r_Only_ h6).mono ?_)
  rintro e w9 ⟨_, rfl, h7, hb⟩
  obtain ⟨sh7a, ah7a, nh7a, ch7a, Ah7a, Nh7a, Ch7a, sh7b, ah7b, nh7b, ch7b, Ah7b, Nh7b, Ch7b, rfl, h7a, h7b⟩ := h7.shape
  replace hs := bStep hs hb
  replace Blx := Blx.mono hb
  replace Blk := Blk.mono hb
  replace Blk2 := Blk2.mono hb
  replace h1 := h1.mono hb
  replace h2a := h2a.mono hb
  replace h2b := h2b.mono hb
  replace h3 := h3.mono hb
  replace h4a := h4a.mono hb
  replace h4b := h4b.mono hb
  replace h5a := h5a.mono hb
  replace h5b := h5b.mono hb
  replace h6 := h6.mono hb
  replace cx_0 := cellK cx_0 hb
  replace cx_1 := cellK cx_1 hb
  replace cx_2 := cellK cx_2 hb
  replace cx_3 := cellK cx_3 hb
  clear hb
  try go_wp2_with fail
  refine hK.out _ _ ⟨cx_0, cx_1, cx_2, cx_3⟩ (fun hH => ?_)
  clear hK K
  try simp only [Act.put, List.setIfInBounds_toArray, List.set_cons_zero, List.set_cons_succ]
  clear hH
  refine U_one (i := 15) (by kernel_rfl) rfl (fun K hK => ?_)
  go_simp
  (with_reducible refine (r_Of_calls n2 d2 _ (by omega) (by omega) (by omega) (by omega)).mono ?_)
  rintro e w10 ⟨_, rfl, h8, hb⟩
  obtain ⟨sh8, ah8, nh8, ch8, Ah8, Nh8, Ch8, rfl⟩ := h8.shape
  replace hs := bStep hs hb
  replace Blx := Blx.mono hb
  replace Blk := Blk.mono hb
  replace Blk2 := Blk2.mono hb
  replace h1 := h1.mono hb
  replace h2a := h2a.mono hb
  replace h2b := h2b.mono hb
  replace h3 := h3.mono hb
  replace h4a := h4a.mono hb
  replace h4b := h4b.mono hb
  replace h5a := h5a.mono hb
  replace h5b := h5b.mono hb
  replace h6 := h6.mono hb
  replace h7a := h7a.mono hb
  replace h7b := h7b.mono hb
  replace cx_0 := cellK cx_0 hb
  replace cx_1 := cellK cx_1 hb
  replace cx_2 := cellK cx_2 hb
  replace cx_3 := cellK cx_3 hb
  clear hb
  try go_wp2_with fail
  refine hK.out _ _ ⟨cx_0, cx_1, cx_2, cx_3⟩ (fun hH => ?_)
  clear hK K
  try simp only [Act.put, List.setIfInBounds_toArray, List.set_cons_zero, List.set_cons_succ]
  clear hH
  refine U_one (i := 16) (by kernel_rfl) rfl (fun K hK => ?_)
  go_simp
  (with_reducible refine (r_Only_ h8).mono ?_)
  rintro e w11 ⟨_, rfl, h9, hb⟩
  obtain ⟨sh9a, ah9a, nh9a, ch9a, Ah9a, Nh9a, Ch9a, sh9b, ah9b, nh9b, ch9b, Ah9b, Nh9b, Ch9b, rfl, h9a, h9b⟩ := h9.shape
  replace hs := bStep hs hb
  replace Blx := Blx.mono hb
  replace Blk := Blk.mono hb
  replace Blk2 := Blk2.mono hb
  replace h1 := h1.mono hb
  replace h2a := h2a.mono hb
  replace h2b := h2b.mono hb
  replace h3 := h3.mono hb
  replace h4a := h4a.mono hb
  replace h4b := h4b.mono hb
  replace h5a := h5a.mono hb
  replace h5b := h5b.mono hb
  replace h6 := h6.mono hb
  replace h7a := h7a.mono hb
  replace h7b := h7b.mono hb
  replace h8 := h8.mono hb
  replace cx_0 := cellK cx_0 hb
  replace cx_1 := cellK cx_1 hb
  replace cx_2 := cellK cx_2 hb
  replace cx_3 := cellK cx_3 hb
  clear hb
  try go_wp2_with fail
  refine hK.out _ _ ⟨cx_0, cx_1, cx_2, cx_3⟩ (fun hH => ?_)
  clear hK K
  try simp only [Act.put, List.setIfInBounds_toArray, List.set_cons_zero, List.set_cons_succ]
  clear hH
  refine U_one (i := 17) (by kernel_rfl) rfl (fun K hK => ?_)
  go_simp
  (with_reducible refine (r_Hull _ _ _ _ _ _ _ (RV2.mk h7a h7b) (SzQ.mid z1) (SzQ.mid z1) (RV2.mk h9a h9b) (SzQ.mid z2) (SzQ.mid z2)).mono ?_)
  rintro e w12 ⟨_, rfl, h10, hb⟩
  obtain ⟨sh10a, ah10a, nh10a, ch10a, Ah10a, Nh10a, Ch10a, sh10b, ah10b, nh10b, ch10b, Ah10b, Nh10b, Ch10b, rfl, h10a, h10b⟩ := h10.shape
  replace hs := bStep hs hb
  replace Blx := Blx.mono hb
  replace Blk := Blk.mono hb
  replace Blk2 := Blk2.mono hb
  replace h1 := h1.mono hb
  replace h2a := h2a.mono hb
  replace h2b := h2b.mono hb
  replace h3 := h3.mono hb
  replace h4a := h4a.mono hb
  replace h4b := h4b.mono hb
  replace h5a := h5a.mono hb
  replace h5b := h5b.mono hb
  replace h6 := h6.mono hb
  replace h7a := h7a.mono hb
  replace h7b := h7b.mono hb
  replace h8 := h8.mono hb
  replace h9a := h9a.mono hb
  replace h9b := h9b.mono hb
  replace cx_0 := cellK cx_0 hb
  replace cx_1 := cellK cx_1 hb
  replace cx_2 := cellK cx_2 hb
  replace cx_3 := cellK cx_3 hb
  clear hb
  try go_wp2_with fail
  refine hK.out _ _ ⟨cx_0, cx_1, cx_2, cx_3⟩ (fun hH => ?_)
  clear hK K
  try simp only [Act.put, List.setIfInBounds_toArray, List.set_cons_zero, List.set_cons_succ]
  clear hH
  have ck_0 : w12.cell? ⟨w.heap.size + 1, 0, none⟩ = some (.bool false) := Blk.at 0 rfl
  have ck_1 : w12.cell? ⟨w.heap.size + 1, 1, none⟩ = some (.slice none 0 0) := Blk.at 1 rfl
  have ck_2 : w12.cell? ⟨w.heap.size + 1, 2, none⟩ = some (.slice none 0 0) := Blk.at 2 rfl
  have ck_3 : w12.cell? ⟨w.heap.size + 1, 3, none⟩ = some (.bool false) := Blk.at 3 rfl
  have ck_4 : w12.cell? ⟨w.heap.size + 1, 4, none⟩ = some (.slice none 0 0) := Blk.at 4 rfl
  have ck_5 : w12.cell? ⟨w.heap.size + 1, 5, none⟩ = some (.slice none 0 0) := Blk.at 5 rfl
  have fk := Blk.free
  have Lk : w.heap.size + 1 < w12.heap.size := Blk.lt
  refine U_one (i := 18) (by kernel_rfl) rfl (fun K hK => ?_)
  go_simp
  generalize hW_ : ((((((w12.setCell ⟨w.heap.size + 1, 0, none⟩ (.bool sh5a)).setCell ⟨w.heap.size + 1, 1, none⟩ (.slice ah5a nh5a ch5a)).setCell ⟨w.heap.size + 1, 2, none⟩ (.slice Ah5a Nh5a Ch5a)).setCell ⟨w.heap.size + 1, 3, none⟩ (.bool sh5b)).setCell ⟨w.heap.size + 1, 4, none⟩ (.slice ah5b nh5b ch5b)).setCell ⟨w.heap.size + 1, 5, none⟩ (.slice Ah5b Nh5b Ch5b)) = w13
  have hW := hW_.symm
  clear hW_
  have hG : Gr [w.heap.size + 1] w12 w13 := by rw [hW]; exact (Gr.refl _ _).set.set.set.set.set.set
  have hsz := hs.size
  have lk := Blk.lt
  have hbw : Below w.heap.size w12 w13 := hG.below1 hs.size (by first | omega | assumption)
  have hk : KeepD w12 w13 := hG.keep ⟨⟨_, Blk.ty, by decide⟩, True.intro⟩
  have Bl1k : Bx w13 (w.heap.size + 1) 86 #[.bool sh5a, .slice ah5a nh5a ch5a, .slice Ah5a Nh5a Ch5a, .bool sh5b, .slice ah5b nh5b ch5b, .slice Ah5b Nh5b Ch5b] := by rw [hW]; exact Blk.set6
  replace hs := hs.trans hbw
  replace Blx := hG.bx Blx (notMem1 (by omega))
  replace Blk2 := hG.bx Blk2 (notMem1 (by omega))
  replace Blk := Bl1k
  clear Bl1k
  replace h1 := h1.keep hk
  replace h2a := h2a.keep hk
  replace h2b := h2b.keep hk
  replace h3 := h3.keep hk
  replace h4a := h4a.keep hk
  replace h4b := h4b.keep hk
  replace h5a := h5a.keep hk
  replace h5b := h5b.keep hk
  replace h6 := h6.keep hk
  replace h7a := h7a.keep hk
  replace h7b := h7b.keep hk
  replace h8 := h8.keep hk
  replace h9a := h9a.keep hk
  replace h9b := h9b.keep hk
  replace h10a := h10a.keep hk
  replace h10b := h10b.keep hk
  replace cx_0 := hG.cell cx_0 (notMem1 (by dsimp only; omega))
  replace cx_1 := hG.cell cx_1 (notMem1 (by dsimp only; omega))
  replace cx_2 := hG.cell cx_2 (notMem1 (by dsimp only; omega))
  replace cx_3 := hG.cell cx_3 (notMem1 (by dsimp only; omega))
  clear hW hG hk hbw hsz lk
  refine hK.out _ _ ⟨cx_0, cx_1, cx_2, cx_3⟩ (fun hH => ?_)
  clear hK K
  try simp only [Act.put, List.setIfInBounds_toArray, List.set_cons_zero, List.set_cons_succ]
  clear hH
  have ck2_0 : w13.cell? ⟨w.heap.size + 1 + 1, 0, none⟩ = some (.bool false) := Blk2.at 0 rfl
  have ck2_1 : w13.cell? ⟨w.heap.size + 1 + 1, 1, none⟩ = some (.slice none 0 0) := Blk2.at 1 rfl
  have ck2_2 : w13.cell? ⟨w.heap.size + 1 + 1, 2, none⟩ = some (.slice none 0 0) := Blk2.at 2 rfl
  have ck2_3 : w13.cell? ⟨w.heap.size + 1 + 1, 3, none⟩ = some (.bool false) := Blk2.at 3 rfl
  have ck2_4 : w13.cell? ⟨w.heap.size + 1 + 1, 4, none⟩ = some (.slice none 0 0) := Blk2.at 4 rfl
  have ck2_5 : w13.cell? ⟨w.heap.size + 1 + 1, 5, none⟩ = some (.slice none 0 0) := Blk2.at 5 rfl
  have fk2 := Blk2.free
  have Lk2 : w.heap.size + 1 + 1 < w13.heap.size := Blk2.lt
  refine U_last (by kernel_rfl) rfl (by kernel_rfl) (fun K hK => ?_)
  go_simp
  refine hK.out _ _ ?_
  clear hK K
  intro w14 hW
  have hG : Gr [w.heap.size + 1 + 1] w13 w14 := by rw [hW]; exact (Gr.refl _ _).set.set.set.set.set.set
  have hsz := hs.size
  have lk2 := Blk2.lt
  have hbw : Below w.heap.size w13 w14 := hG.below1 hs.size (by first | omega | assumption)
  have hk : KeepD w13 w14 := hG.keep ⟨⟨_, Blk2.ty, by decide⟩, True.intro⟩
  have Bl1k2 : Bx w14 (w.heap.size + 1 + 1) 88 #[.bool sh10a, .slice ah10a nh10a ch10a, .slice Ah10a Nh10a Ch10a, .bool sh10b, .slice ah10b nh10b ch10b, .slice Ah10b Nh10b Ch10b] := by rw [hW]; exact Blk2.set6
  replace hs := hs.trans hbw
  replace Blx := hG.bx Blx (notMem1 (by omega))
  replace Blk := hG.bx Blk (notMem1 (by omega))
  replace Blk2 := Bl1k2
  clear Bl1k2
  replace h1 := h1.keep hk
  replace h2a := h2a.keep hk
  replace h2b := h2b.keep hk
  replace h3 := h3.keep hk
  replace h4a := h4a.keep hk
  replace h4b := h4b.keep hk
  replace h5a := h5a.keep hk
  replace h5b := h5b.keep hk
  replace h6 := h6.keep hk
  replace h7a := h7a.keep hk
  replace h7b := h7b.keep hk
  replace h8 := h8.keep hk
  replace h9a := h9a.keep hk
  replace h9b := h9b.keep hk
  replace h10a := h10a.keep hk
  replace h10b := h10b.keep hk
  clear hW hG hk hbw hsz lk2
  try simp only [Act.put, List.setIfInBounds_toArray, List.set_cons_zero, List.set_cons_succ]
  clear cx_0 cx_1 cx_2 cx_3
  go_wp2
  have ck_0 : w14.cell? ⟨w.heap.size + 1, 0, none⟩ = some (.bool sh5a) := Blk.at 0 rfl
  have ck_1 : w14.cell? ⟨w.heap.size + 1, 1, none⟩ = some (.slice ah5a nh5a ch5a) := Blk.at 1 rfl
  have ck_2 : w14.cell? ⟨w.heap.size + 1, 2, none⟩ = some (.slice Ah5a Nh5a Ch5a) := Blk.at 2 rfl
  have ck_3 : w14.cell? ⟨w.heap.size + 1, 3, none⟩ = some (.bool sh5b) := Blk.at 3 rfl
  have ck_4 : w14.cell? ⟨w.heap.size + 1, 4, none⟩ = some (.slice ah5b nh5b ch5b) := Blk.at 4 rfl
  have ck_5 : w14.cell? ⟨w.heap.size + 1, 5, none⟩ = some (.slice Ah5b Nh5b Ch5b) := Blk.at 5 rfl
  have ck2_0 : w14.cell? ⟨w.heap.size + 1 + 1, 0, none⟩ = some (.bool sh10a) := Blk2.at 0 rfl
  have ck2_1 : w14.cell? ⟨w.heap.size + 1 + 1, 1, none⟩ = some (.slice ah10a nh10a ch10a) := Blk2.at 1 rfl
  have ck2_2 : w14.cell? ⟨w.heap.size + 1 + 1, 2, none⟩ = some (.slice Ah10a Nh10a Ch10a) := Blk2.at 2 rfl
  have ck2_3 : w14.cell? ⟨w.heap.size + 1 + 1, 3, none⟩ = some (.bool sh10b) := Blk2.at 3 rfl
  have ck2_4 : w14.cell? ⟨w.heap.size + 1 + 1, 4, none⟩ = some (.slice ah10b nh10b ch10b) := Blk2.at 4 rfl
  have ck2_5 : w14.cell? ⟨w.heap.size + 1 + 1, 5, none⟩ = some (.slice Ah10b Nh10b Ch10b) := Blk2.at 5 rfl
  exact bodyPost_ret (v := .tuple #[.agg #[.bool sh5a, .slice ah5a nh5a ch5a, .slice Ah5a Nh5a Ch5a, .bool sh5b, .slice ah5b nh5b ch5b, .slice Ah5b Nh5b Ch5b], .agg #[.bool sh10a, .slice ah10a nh10a ch10a, .slice Ah10a Nh10a Ch10a, .bool sh10b, .slice ah10b nh10b ch10b, .slice Ah10b Nh10b Ch10b]]) (by simp [results, Tryz.results31, go_sem, ck_0, ck_1, ck_2, ck_3, ck_4, ck_5, ck2_0, ck2_1, ck2_2, ck2_3, ck2_4, ck2_5]) rfl ⟨_, _, rfl, PV2.mk (h5a.of_eq (mnL2 _ _)) (h5b.of_eq (mxL2 _ _)), RV2.mk h10a h10b, hs⟩

end Go.Proofs.YtlfnapfnpkhggaaGreat
