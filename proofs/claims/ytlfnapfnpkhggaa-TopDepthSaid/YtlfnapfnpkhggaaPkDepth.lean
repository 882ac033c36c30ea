/-
  The program's Mul of ranges.
-/
import Derived.Test.YtlfnapfnpkhggaaPkRangeH
import Derived.Test.YtlfnapfnpkhggaaPkScan
set_option linter.unusedSimpArgs false
set_option linter.unusedVariables false
namespace Go.Proofs.Ytlfnapfnpkhggaa
open Go.RowKit Dg
attribute [local go_sem ↓] Go.wp_at_zero Go.wp_at_succ

set_option maxRecDepth 100000 in
set_option maxHeartbeats 16000000 in
theorem p_RMul (vxy : Value) (x y : Rat) (vzu : Value) (z u : Rat) (w : World) (hxy : PV2 w vxy x y) (sx : Mid x) (sy : Mid y) (hzu : PV2 w vzu z u) (sz : Mid z) (su : Mid u) :
    Calls Try.prog 54 #[vxy, vzu] w (Ret1 (fun w v => PV2 w v (mnL [x * z, x * u, y * z, y * u] 3) (mxL [x * z, x * u, y * z, y * u] 3)) w) := by
  obtain ⟨shx, ahx, nhx, chx, Ahx, Nhx, Chx, shy, ahy, nhy, chy, Ahy, Nhy, Chy, rfl, hx, hy⟩ := hxy.shape
  clear hxy
  obtain ⟨shz, ahz, nhz, chz, Ahz, Nhz, Chz, shu, ahu, nhu, chu, Ahu, Nhu, Chu, rfl, hz, hu⟩ := hzu.shape
  clear hzu
  have hs := Below.refl w.heap.size w
  go_enter Try.func54, Try.ntmps54
  go_upto_region 1 with fail
  refine Code.abs ?_
  intro w1 hW
  have hG : Gr [] w w1 := by rw [hW]; exact (Gr.refl _ _).alloc.alloc.alloc
  have hbw : Below w.heap.size w w1 := hG.below0 hs.size
  have hk : KeepD w w1 := hG.keep True.intro
  have sz_w1 : w.heap.size ≤ w.heap.size := hs.size
  have Blx : Bx w1 (w.heap.size) 72 #[.bool shx, .slice ahx nhx chx, .slice Ahx Nhx Chx, .bool shy, .slice ahy nhy chy, .slice Ahy Nhy Chy] := by rw [hW]; exact (((Bx.new0 _ _ _).alloc _).alloc _)
  have Bly : Bx w1 (w.heap.size + 1) 72 #[.bool shz, .slice ahz nhz chz, .slice Ahz Nhz Chz, .bool shu, .slice ahu nhu chu, .slice Ahu Nhu Chu] := by rw [hW]; exact ((Bx.new0 _ _ _).alloc _)
  have Blk : Bx w1 (w.heap.size + 1 + 1) 72 #[.bool false, .slice none 0 0, .slice none 0 0, .bool false, .slice none 0 0, .slice none 0 0] := by rw [hW]; exact (Bx.new0 _ _ _)
  replace hs := hs.trans hbw
  replace hx := hx.keep hk
  replace hy := hy.keep hk
  replace hz := hz.keep hk
  replace hu := hu.keep hk
  clear hW hG hk hbw
  have hz_w1 : w.heap.size + 1 + 1 < w1.heap.size := Blk.lt
  refine U_region (S := fun w' => w'.cell? ⟨w.heap.size, 0, none⟩ = some (.bool shx) ∧ w'.cell? ⟨w.heap.size, 1, none⟩ = some (.slice ahx nhx chx) ∧ w'.cell? ⟨w.heap.size, 2, none⟩ = some (.slice Ahx Nhx Chx) ∧ w'.cell? ⟨w.heap.size, 3, none⟩ = some (.bool shy) ∧ w'.cell? ⟨w.heap.size, 4, none⟩ = some (.slice ahy nhy chy) ∧ w'.cell? ⟨w.heap.size, 5, none⟩ = some (.slice Ahy Nhy Chy) ∧ w'.cell? ⟨w.heap.size + 1, 0, none⟩ = some (.bool shz) ∧ w'.cell? ⟨w.heap.size + 1, 1, none⟩ = some (.slice ahz nhz chz) ∧ w'.cell? ⟨w.heap.size + 1, 2, none⟩ = some (.slice Ahz Nhz Chz) ∧ w'.cell? ⟨w.heap.size + 1, 3, none⟩ = some (.bool shu) ∧ w'.cell? ⟨w.heap.size + 1, 4, none⟩ = some (.slice ahu nhu chu) ∧ w'.cell? ⟨w.heap.size + 1, 5, none⟩ = some (.slice Ahu Nhu Chu)) (by kernel_rfl) 22 ?_
  refine AnyU.abs ?_
  intro w2 hW
  have hb : Below w1.heap.size w1 w2 := by rw [hW]; exact bDrew _
  replace hs := bStep hs hb
  replace Blx := Blx.mono hb
  replace Bly := Bly.mono hb
  replace Blk := Blk.mono hb
  replace hx := hx.mono hb
  replace hy := hy.mono hb
  replace hz := hz.mono hb
  replace hu := hu.mono hb
  clear hb hW
  have cx_0 : w2.cell? ⟨w.heap.size, 0, none⟩ = some (.bool shx) := Blx.at 0 rfl
  have cx_1 : w2.cell? ⟨w.heap.size, 1, none⟩ = some (.slice ahx nhx chx) := Blx.at 1 rfl
  have cx_2 : w2.cell? ⟨w.heap.size, 2, none⟩ = some (.slice Ahx Nhx Chx) := Blx.at 2 rfl
  have cx_3 : w2.cell? ⟨w.heap.size, 3, none⟩ = some (.bool shy) := Blx.at 3 rfl
  have cx_4 : w2.cell? ⟨w.heap.size, 4, none⟩ = some (.slice ahy nhy chy) := Blx.at 4 rfl
  have cx_5 : w2.cell? ⟨w.heap.size, 5, none⟩ = some (.slice Ahy Nhy Chy) := Blx.at 5 rfl
  have cy_0 : w2.cell? ⟨w.heap.size + 1, 0, none⟩ = some (.bool shz) := Bly.at 0 rfl
  have cy_1 : w2.cell? ⟨w.heap.size + 1, 1, none⟩ = some (.slice ahz nhz chz) := Bly.at 1 rfl
  have cy_2 : w2.cell? ⟨w.heap.size + 1, 2, none⟩ = some (.slice Ahz Nhz Chz) := Bly.at 2 rfl
  have cy_3 : w2.cell? ⟨w.heap.size + 1, 3, none⟩ = some (.bool shu) := Bly.at 3 rfl
  have cy_4 : w2.cell? ⟨w.heap.size + 1, 4, none⟩ = some (.slice ahu nhu chu) := Bly.at 4 rfl
  have cy_5 : w2.cell? ⟨w.heap.size + 1, 5, none⟩ = some (.slice Ahu Nhu Chu) := Bly.at 5 rfl
  have hH := (show w2.cell? ⟨w.heap.size, 0, none⟩ = some (.bool shx) ∧ w2.cell? ⟨w.heap.size, 1, none⟩ = some (.slice ahx nhx chx) ∧ w2.cell? ⟨w.heap.size, 2, none⟩ = some (.slice Ahx Nhx Chx) ∧ w2.cell? ⟨w.heap.size, 3, none⟩ = some (.bool shy) ∧ w2.cell? ⟨w.heap.size, 4, none⟩ = some (.slice ahy nhy chy) ∧ w2.cell? ⟨w.heap.size, 5, none⟩ = some (.slice Ahy Nhy Chy) ∧ w2.cell? ⟨w.heap.size + 1, 0, none⟩ = some (.bool shz) ∧ w2.cell? ⟨w.heap.size + 1, 1, none⟩ = some (.slice ahz nhz chz) ∧ w2.cell? ⟨w.heap.size + 1, 2, none⟩ = some (.slice Ahz Nhz Chz) ∧ w2.cell? ⟨w.heap.size + 1, 3, none⟩ = some (.bool shu) ∧ w2.cell? ⟨w.heap.size + 1, 4, none⟩ = some (.slice ahu nhu chu) ∧ w2.cell? ⟨w.heap.size + 1, 5, none⟩ = some (.slice Ahu Nhu Chu) from ⟨cx_0, cx_1, cx_2, cx_3, cx_4, cx_5, cy_0, cy_1, cy_2, cy_3, cy_4, cy_5⟩)
  refine U_take (i := 0) (v := ?_) rfl (by kernel_rfl) (by kernel_rfl) (by kernel_rfl) (by kernel_rfl) (fun _ _ _ h => h) (Or.inl ⟨by rfl, ?_⟩) hH ?_
  rotate_left
  · intro w hSw
    try dsimp only at hSw
    go_simp
    try with_reducible rfl
  try simp only [Act.put, List.setIfInBounds_toArray, List.set_cons_zero, List.set_cons_succ]
  refine U_take (i := 1) (v := ?_) rfl (by kernel_rfl) (by kernel_rfl) (by kernel_rfl) (by kernel_rfl) (fun _ _ _ h => h) (Or.inl ⟨by rfl, ?_⟩) hH ?_
  rotate_left
  · intro w hSw
    try dsimp only at hSw
    go_simp
    try with_reducible rfl
  try simp only [Act.put, List.setIfInBounds_toArray, List.set_cons_zero, List.set_cons_succ]
  refine U_take (i := 2) (v := ?_) rfl (by kernel_rfl) (by kernel_rfl) (by kernel_rfl) (by kernel_rfl) (fun _ _ _ h => h) (Or.inl ⟨by rfl, ?_⟩) hH ?_
  rotate_left
  · intro w hSw
    try dsimp only at hSw
    go_simp
    try with_reducible rfl
  try simp only [Act.put, List.setIfInBounds_toArray, List.set_cons_zero, List.set_cons_succ]
  refine U_take (i := 3) (v := ?_) rfl (by kernel_rfl) (by kernel_rfl) (by kernel_rfl) (by kernel_rfl) (fun _ _ _ h => h) (Or.inl ⟨by rfl, ?_⟩) hH ?_
  rotate_left
  · intro w hSw
    try dsimp only at hSw
    go_simp
    try with_reducible rfl
  try simp only [Act.put, List.setIfInBounds_toArray, List.set_cons_zero, List.set_cons_succ]
  refine U_take (i := 5) (v := ?_) rfl (by kernel_rfl) (by kernel_rfl) (by kernel_rfl) (by kernel_rfl) (fun _ _ _ h => h) (Or.inl ⟨by rfl, ?_⟩) hH ?_
  rotate_left
  · intro w hSw
    try dsimp only at hSw
    go_simp
    try with_reducible rfl
  try simp only [Act.put, List.setIfInBounds_toArray, List.set_cons_zero, List.set_cons_succ]
  refine U_take (i := 6) (v := ?_) rfl (by kernel_rfl) (by kernel_rfl) (by kernel_rfl) (by kernel_rfl) (fun _ _ _ h => h) (Or.inl ⟨by rfl, ?_⟩) hH ?_
  rotate_left
  · intro w hSw
    try dsimp only at hSw
    go_simp
    try with_reducible rfl
  try simp only [Act.put, List.setIfInBounds_toArray, List.set_cons_zero, List.set_cons_succ]
  refine U_take (i := 7) (v := ?_) rfl (by kernel_rfl) (by kernel_rfl) (by kernel_rfl) (by kernel_rfl) (fun _ _ _ h => h) (Or.inl ⟨by rfl, ?_⟩) hH ?_
  rotate_left
  · intro w hSw
    try dsimp only at hSw
    go_simp
    try with_reducible rfl
  try simp only [Act.put, List.setIfInBounds_toArray, List.set_cons_zero, List.set_cons_succ]
  refine U_take (i := 8) (v := ?_) rfl (by kernel_rfl) (by kernel_rfl) (by kernel_rfl) (by kernel_rfl) (fun _ _ _ h => h) (Or.inl ⟨by rfl, ?_⟩) hH ?_
  rotate_left
  · intro w hSw
    try dsimp only at hSw
    go_simp
    try with_reducible rfl
  try simp only [Act.put, List.setIfInBounds_toArray, List.set_cons_zero, List.set_cons_succ]
  refine U_take (i := 10) (v := ?_) rfl (by kernel_rfl) (by kernel_rfl) (by kernel_rfl) (by kernel_rfl) (fun _ _ _ h => h) (Or.inl ⟨by rfl, ?_⟩) hH ?_
  rotate_left
  · intro w hSw
    try dsimp only at hSw
    go_simp
    try with_reducible rfl
  try simp only [Act.put, List.setIfInBounds_toArray, List.set_cons_zero, List.set_cons_succ]
  refine U_take (i := 11) (v := ?_) rfl (by kernel_rfl) (by kernel_rfl) (by kernel_rfl) (by kernel_rfl) (fun _ _ _ h => h) (Or.inl ⟨by rfl, ?_⟩) hH ?_
  rotate_left
  · intro w hSw
    try dsimp only at hSw
    go_simp
    try with_reducible rfl
  try simp only [Act.put, List.setIfInBounds_toArray, List.set_cons_zero, List.set_cons_succ]
  refine U_take (i := 12) (v := ?_) rfl (by kernel_rfl) (by kernel_rfl) (by kernel_rfl) (by kernel_rfl) (fun _ _ _ h => h) (Or.inl ⟨by rfl, ?_⟩) hH ?_
  rotate_left
  · intro w hSw
    try dsimp only at hSw
    go_simp
    try with_reducible rfl
  try simp only [Act.put, List.setIfInBounds_toArray, List.set_cons_zero, List.set_cons_succ]
  refine U_take (i := 13) (v := ?_) rfl (by kernel_rfl) (by kernel_rfl) (by kernel_rfl) (by kernel_rfl) (fun _ _ _ h => h) (Or.inl ⟨by rfl, ?_⟩) hH ?_
  rotate_left
  · intro w hSw
    try dsimp only at hSw
    go_simp
    try with_reducible rfl
  try simp only [Act.put, List.setIfInBounds_toArray, List.set_cons_zero, List.set_cons_succ]
  refine U_take (i := 15) (v := ?_) rfl (by kernel_rfl) (by kernel_rfl) (by kernel_rfl) (by kernel_rfl) (fun _ _ _ h => h) (Or.inl ⟨by rfl, ?_⟩) hH ?_
  rotate_left
  · intro w hSw
    try dsimp only at hSw
    go_simp
    try with_reducible rfl
  try simp only [Act.put, List.setIfInBounds_toArray, List.set_cons_zero, List.set_cons_succ]
  refine U_take (i := 16) (v := ?_) rfl (by kernel_rfl) (by kernel_rfl) (by kernel_rfl) (by kernel_rfl) (fun _ _ _ h => h) (Or.inl ⟨by rfl, ?_⟩) hH ?_
  rotate_left
  · intro w hSw
    try dsimp only at hSw
    go_simp
    try with_reducible rfl
  try simp only [Act.put, List.setIfInBounds_toArray, List.set_cons_zero, List.set_cons_succ]
  refine U_take (i := 17) (v := ?_) rfl (by kernel_rfl) (by kernel_rfl) (by kernel_rfl) (by kernel_rfl) (fun _ _ _ h => h) (Or.inl ⟨by rfl, ?_⟩) hH ?_
  rotate_left
  · intro w hSw
    try dsimp only at hSw
    go_simp
    try with_reducible rfl
  try simp only [Act.put, List.setIfInBounds_toArray, List.set_cons_zero, List.set_cons_succ]
  refine U_take (i := 18) (v := ?_) rfl (by kernel_rfl) (by kernel_rfl) (by kernel_rfl) (by kernel_rfl) (fun _ _ _ h => h) (Or.inl ⟨by rfl, ?_⟩) hH ?_
  rotate_left
  · intro w hSw
    try dsimp only at hSw
    go_simp
    try with_reducible rfl
  try simp only [Act.put, List.setIfInBounds_toArray, List.set_cons_zero, List.set_cons_succ]
  clear hH
  refine U_one (i := 4) (by kernel_rfl) rfl (fun K hK => ?_)
  go_simp
  (with_reducible refine (pMul hx hz (SzQ.fit sx) (SzQ.fit sz)).mono ?_)
  rintro e w3 ⟨_, rfl, h1, hb⟩
  obtain ⟨sh1, ah1, nh1, ch1, Ah1, Nh1, Ch1, rfl⟩ := h1.shape
  replace hs := bStep hs hb
  replace Blx := Blx.mono hb
  replace Bly := Bly.mono hb
  replace Blk := Blk.mono hb
  replace hx := hx.mono hb
  replace hy := hy.mono hb
  replace hz := hz.mono hb
  replace hu := hu.mono hb
  replace cx_0 := cellK cx_0 hb
  replace cx_1 := cellK cx_1 hb
  replace cx_2 := cellK cx_2 hb
  replace cx_3 := cellK cx_3 hb
  replace cx_4 := cellK cx_4 hb
  replace cx_5 := cellK cx_5 hb
  replace cy_0 := cellK cy_0 hb
  replace cy_1 := cellK cy_1 hb
  replace cy_2 := cellK cy_2 hb
  replace cy_3 := cellK cy_3 hb
  replace cy_4 := cellK cy_4 hb
  replace cy_5 := cellK cy_5 hb
  clear hb
  try go_wp2_with fail
  refine hK.out _ _ ⟨cx_0, cx_1, cx_2, cx_3, cx_4, cx_5, cy_0, cy_1, cy_2, cy_3, cy_4, cy_5⟩ (fun hH => ?_)
  clear hK K
  try simp only [Act.put, List.setIfInBounds_toArray, List.set_cons_zero, List.set_cons_succ]
  clear hH
  refine U_one (i := 9) (by kernel_rfl) rfl (fun K hK => ?_)
  go_simp
  (with_reducible refine (pMul hx hu (SzQ.fit sx) (SzQ.fit su)).mono ?_)
  rintro e w4 ⟨_, rfl, h2, hb⟩
  obtain ⟨sh2, ah2, nh2, ch2, Ah2, Nh2, Ch2, rfl⟩ := h2.shape
  replace hs := bStep hs hb
  replace Blx := Blx.mono hb
  replace Bly := Bly.mono hb
  replace Blk := Blk.mono hb
  replace hx := hx.mono hb
  replace hy := hy.mono hb
  replace hz := hz.mono hb
  replace hu := hu.mono hb
  replace h1 := h1.mono hb
  replace cx_0 := cellK cx_0 hb
  replace cx_1 := cellK cx_1 hb
  replace cx_2 := cellK cx_2 hb
  replace cx_3 := cellK cx_3 hb
  replace cx_4 := cellK cx_4 hb
  replace cx_5 := cellK cx_5 hb
  replace cy_0 := cellK cy_0 hb
  replace cy_1 := cellK cy_1 hb
  replace cy_2 := cellK cy_2 hb
  replace cy_3 := cellK cy_3 hb
  replace cy_4 := cellK cy_4 hb
  replace cy_5 := cellK cy_5 hb
  clear hb
  try go_wp2_with fail
  refine hK.out _ _ ⟨cx_0, cx_1, cx_2, cx_3, cx_4, cx_5, cy_0, cy_1, cy_2, cy_3, cy_4, cy_5⟩ (fun hH => ?_)
  clear hK K
  try simp only [Act.put, List.setIfInBounds_toArray, List.set_cons_zero, List.set_cons_succ]
  clear hH
  refine U_one (i := 14) (by kernel_rfl) rfl (fun K hK => ?_)
  go_simp
  (with_reducible refine (pMul hy hz (SzQ.fit sy) (SzQ.fit sz)).mono ?_)
  rintro e w5 ⟨_, rfl, h3, hb⟩
  obtain ⟨sh3, ah3, nh3, ch3, Ah3, Nh3, Ch3, rfl⟩ := h3.shape
  replace hs := bStep hs hb
  replace Blx := Blx.mono hb
  replace Bly := Bly.mono hb
  replace Blk := Blk.mono hb
  replace hx := hx.mono hb
  replace hy := hy.mono hb
  replace hz := hz.mono hb
  replace hu := hu.mono hb
  replace h1 := h1.mono hb
  replace h2 := h2.mono hb
  replace cx_0 := cellK cx_0 hb
  replace cx_1 := cellK cx_1 hb
  replace cx_2 := cellK cx_2 hb
  replace cx_3 := cellK cx_3 hb
  replace cx_4 := cellK cx_4 hb
  replace cx_5 := cellK cx_5 hb
  replace cy_0 := cellK cy_0 hb
  replace cy_1 := cellK cy_1 hb
  replace cy_2 := cellK cy_2 hb
  replace cy_3 := cellK cy_3 hb
  replace cy_4 := cellK cy_4 hb
  replace cy_5 := cellK cy_5 hb
  clear hb
  try go_wp2_with fail
  refine hK.out _ _ ⟨cx_0, cx_1, cx_2, cx_3, cx_4, cx_5, cy_0, cy_1, cy_2, cy_3, cy_4, cy_5⟩ (fun hH => ?_)
  clear hK K
  try simp only [Act.put, List.setIfInBounds_toArray, List.set_cons_zero, List.set_cons_succ]
  clear hH
  refine U_one (i := 19) (by kernel_rfl) rfl (fun K hK => ?_)
  go_simp
  (with_reducible refine (pMul hy hu (SzQ.fit sy) (SzQ.fit su)).mono ?_)
  rintro e w6 ⟨_, rfl, h4, hb⟩
  obtain ⟨sh4, ah4, nh4, ch4, Ah4, Nh4, Ch4, rfl⟩ := h4.shape
  replace hs := bStep hs hb
  replace Blx := Blx.mono hb
  replace Bly := Bly.mono hb
  replace Blk := Blk.mono hb
  replace hx := hx.mono hb
  replace hy := hy.mono hb
  replace hz := hz.mono hb
  replace hu := hu.mono hb
  replace h1 := h1.mono hb
  replace h2 := h2.mono hb
  replace h3 := h3.mono hb
  replace cx_0 := cellK cx_0 hb
  replace cx_1 := cellK cx_1 hb
  replace cx_2 := cellK cx_2 hb
  replace cx_3 := cellK cx_3 hb
  replace cx_4 := cellK cx_4 hb
  replace cx_5 := cellK cx_5 hb
  replace cy_0 := cellK cy_0 hb
  replace cy_1 := cellK cy_1 hb
  replace cy_2 := cellK cy_2 hb
  replace cy_3 := cellK cy_3 hb
  replace cy_4 := cellK cy_4 hb
  replace cy_5 := cellK cy_5 hb
  clear hb
  try go_wp2_with fail
  refine hK.out _ _ ⟨cx_0, cx_1, cx_2, cx_3, cx_4, cx_5, cy_0, cy_1, cy_2, cy_3, cy_4, cy_5⟩ (fun hH => ?_)
  clear hK K
  try simp only [Act.put, List.setIfInBounds_toArray, List.set_cons_zero, List.set_cons_succ]
  clear hH
  refine U_one (i := 20) (by kernel_rfl) rfl (fun K hK => ?_)
  go_simp
  generalize hWn : (w6.alloc (.cells #[.bool sh1, .slice ah1 nh1 ch1, .slice Ah1 Nh1 Ch1, .bool sh2, .slice ah2 nh2 ch2, .slice Ah2 Nh2 Ch2, .bool sh3, .slice ah3 nh3 ch3, .slice Ah3 Nh3 Ch3, .bool sh4, .slice ah4 nh4 ch4, .slice Ah4 Nh4 Ch4] 36)) = w7
  have hb : Below w6.heap.size w6 w7 := by rw [← hWn]; exact (Below.refl _ _).alloc (Nat.le_refl _) _
  have Blls : Bx w7 (w6.heap.size) 36 #[.bool sh1, .slice ah1 nh1 ch1, .slice Ah1 Nh1 Ch1, .bool sh2, .slice ah2 nh2 ch2, .slice Ah2 Nh2 Ch2, .bool sh3, .slice ah3 nh3 ch3, .slice Ah3 Nh3 Ch3, .bool sh4, .slice ah4 nh4 ch4, .slice Ah4 Nh4 Ch4] := by rw [← hWn]; exact Bx.new _ _ _
  have nx_ls : w.heap.size ≠ w6.heap.size := by have := Blx.lt; omega
  have ny_ls : w.heap.size + 1 ≠ w6.heap.size := by have := Bly.lt; omega
  have nk_ls : w.heap.size + 1 + 1 ≠ w6.heap.size := by have := Blk.lt; omega
  have sz_ls : w.heap.size ≤ w6.heap.size := hs.size
  replace hs := bStep hs hb
  replace Blx := Blx.mono hb
  replace Bly := Bly.mono hb
  replace Blk := Blk.mono hb
  replace hx := hx.mono hb
  replace hy := hy.mono hb
  replace hz := hz.mono hb
  replace hu := hu.mono hb
  replace h1 := h1.mono hb
  replace h2 := h2.mono hb
  replace h3 := h3.mono hb
  replace h4 := h4.mono hb
  replace cx_0 := cellK cx_0 hb
  replace cx_1 := cellK cx_1 hb
  replace cx_2 := cellK cx_2 hb
  replace cx_3 := cellK cx_3 hb
  replace cx_4 := cellK cx_4 hb
  replace cx_5 := cellK cx_5 hb
  replace cy_0 := cellK cy_0 hb
  replace cy_1 := cellK cy_1 hb
  replace cy_2 := cellK cy_2 hb
  replace cy_3 := cellK cy_3 hb
  replace cy_4 := cellK cy_4 hb
  replace cy_5 := cellK cy_5 hb
  clear hb hWn
  refine hK.out _ _ ⟨cx_0, cx_1, cx_2, cx_3, cx_4, cx_5, cy_0, cy_1, cy_2, cy_3, cy_4, cy_5⟩ (fun hH => ?_)
  clear hK K
  try simp only [Act.put, List.setIfInBounds_toArray, List.set_cons_zero, List.set_cons_succ]
  clear hH
  refine U_one (i := 21) (by kernel_rfl) rfl (fun K hK => ?_)
  go_simp
  (with_reducible refine (p_around _ [x * z, x * u, y * z, y * u] _ (rows4P Blls h1 h2 h3 h4) (by simp) (by simp) (fit4 (SzQ.fit (SzQ.mul sx sz)) (SzQ.fit (SzQ.mul sx su)) (SzQ.fit (SzQ.mul sy sz)) (SzQ.fit (SzQ.mul sy su)))).mono ?_)
  rintro e w8 ⟨_, rfl, h5, hb⟩
  obtain ⟨sh5a, ah5a, nh5a, ch5a, Ah5a, Nh5a, Ch5a, sh5b, ah5b, nh5b, ch5b, Ah5b, Nh5b, Ch5b, rfl, h5a, h5b⟩ := h5.shape
  replace hs := bStep hs hb
  replace Blx := Blx.mono hb
  replace Bly := Bly.mono hb
  replace Blk := Blk.mono hb
  replace Blls := Blls.mono hb
  replace hx := hx.mono hb
  replace hy := hy.mono hb
  replace hz := hz.mono hb
  replace hu := hu.mono hb
  replace h1 := h1.mono hb
  replace h2 := h2.mono hb
  replace h3 := h3.mono hb
  replace h4 := h4.mono hb
  replace cx_0 := cellK cx_0 hb
  replace cx_1 := cellK cx_1 hb
  replace cx_2 := cellK cx_2 hb
  replace cx_3 := cellK cx_3 hb
  replace cx_4 := cellK cx_4 hb
  replace cx_5 := cellK cx_5 hb
  replace cy_0 := cellK cy_0 hb
  replace cy_1 := cellK cy_1 hb
  replace cy_2 := cellK cy_2 hb
  replace cy_3 := cellK cy_3 hb
  replace cy_4 := cellK cy_4 hb
  replace cy_5 := cellK cy_5 hb
  clear hb
  try go_wp2_with fail
  refine hK.out _ _ ⟨cx_0, cx_1, cx_2, cx_3, cx_4, cx_5, cy_0, cy_1, cy_2, cy_3, cy_4, cy_5⟩ (fun hH => ?_)
  clear hK K
  try simp only [Act.put, List.setIfInBounds_toArray, List.set_cons_zero, List.set_cons_succ]
  clear hH
  have ck_0 : w8.cell? ⟨w.heap.size + 1 + 1, 0, none⟩ = some (.bool false) := Blk.at 0 rfl
  have ck_1 : w8.cell? ⟨w.heap.size + 1 + 1, 1, none⟩ = some (.slice none 0 0) := Blk.at 1 rfl
  have ck_2 : w8.cell? ⟨w.heap.size + 1 + 1, 2, none⟩ = some (.slice none 0 0) := Blk.at 2 rfl
  have ck_3 : w8.cell? ⟨w.heap.size + 1 + 1, 3, none⟩ = some (.bool false) := Blk.at 3 rfl
  have ck_4 : w8.cell? ⟨w.heap.size + 1 + 1, 4, none⟩ = some (.slice none 0 0) := Blk.at 4 rfl
  have ck_5 : w8.cell? ⟨w.heap.size + 1 + 1, 5, none⟩ = some (.slice none 0 0) := Blk.at 5 rfl
  have fk := Blk.free
  have Lk : w.heap.size + 1 + 1 < w8.heap.size := Blk.lt
  refine U_last (by kernel_rfl) rfl (by kernel_rfl) (fun K hK => ?_)
  go_simp
  refine hK.out _ _ ?_
  clear hK K
  intro w9 hW
  have hG : Gr [w.heap.size + 1 + 1] w8 w9 := by rw [hW]; exact (Gr.refl _ _).set.set.set.set.set.set
  have hsz := hs.size
  have lk := Blk.lt
  have hbw : Below w.heap.size w8 w9 := hG.below1 hs.size (by first | omega | assumption)
  have hk : KeepD w8 w9 := hG.keep ⟨⟨_, Blk.ty, by decide⟩, True.intro⟩
  have Bl1k : Bx w9 (w.heap.size + 1 + 1) 72 #[.bool sh5a, .slice ah5a nh5a ch5a, .slice Ah5a Nh5a Ch5a, .bool sh5b, .slice ah5b nh5b ch5b, .slice Ah5b Nh5b Ch5b] := by rw [hW]; exact Blk.set6
  replace hs := hs.trans hbw
  replace Blx := hG.bx Blx (notMem1 (by omega))
  replace Bly := hG.bx Bly (notMem1 (by omega))
  replace Blls := hG.bx Blls (notMem1 (by omega))
  replace Blk := Bl1k
  clear Bl1k
  replace hx := hx.keep hk
  replace hy := hy.keep hk
  replace hz := hz.keep hk
  replace hu := hu.keep hk
  replace h1 := h1.keep hk
  replace h2 := h2.keep hk
  replace h3 := h3.keep hk
  replace h4 := h4.keep hk
  replace h5a := h5a.keep hk
  replace h5b := h5b.keep hk
  clear hW hG hk hbw hsz lk
  try simp only [Act.put, List.setIfInBounds_toArray, List.set_cons_zero, List.set_cons_succ]
  clear cx_0 cx_1 cx_2 cx_3 cx_4 cx_5 cy_0 cy_1 cy_2 cy_3 cy_4 cy_5
  go_wp2
  have ck_0 : w9.cell? ⟨w.heap.size + 1 + 1, 0, none⟩ = some (.bool sh5a) := Blk.at 0 rfl
  have ck_1 : w9.cell? ⟨w.heap.size + 1 + 1, 1, none⟩ = some (.slice ah5a nh5a ch5a) := Blk.at 1 rfl
  have ck_2 : w9.cell? ⟨w.heap.size + 1 + 1, 2, none⟩ = some (.slice Ah5a Nh5a Ch5a) := Blk.at 2 rfl
  have ck_3 : w9.cell? ⟨w.heap.size + 1 + 1, 3, none⟩ = some (.bool sh5b) := Blk.at 3 rfl
  have ck_4 : w9.cell? ⟨w.heap.size + 1 + 1, 4, none⟩ = some (.slice ah5b nh5b ch5b) := Blk.at 4 rfl
  have ck_5 : w9.cell? ⟨w.heap.size + 1 + 1, 5, none⟩ = some (.slice Ah5b Nh5b Ch5b) := Blk.at 5 rfl
  exact bodyPost_ret (v := .agg #[.bool sh5a, .slice ah5a nh5a ch5a, .slice Ah5a Nh5a Ch5a, .bool sh5b, .slice ah5b nh5b ch5b, .slice Ah5b Nh5b Ch5b]) (by simp [results, Try.results54, go_sem, ck_0, ck_1, ck_2, ck_3, ck_4, ck_5]) rfl ⟨_, rfl, (PV2.mk h5a h5b), hs⟩

end Go.Proofs.Ytlfnapfnpkhggaa
/-
  scan.Depth.
-/
namespace Go.Proofs.Ytlfnapfnpkhggaa
open Go.RowKit Dg
attribute [local go_sem ↓] Go.wp_at_zero Go.wp_at_succ

theorem mn4_sz {K : Nat} {a b c d : Rat} (ha : SzQ K a) (hb : SzQ K b) (hc : SzQ K c) (hd : SzQ K d) : SzQ K (mnL [a, b, c, d] 3) := mnL_all (p := SzQ K) (fun i hi => by
  match i, hi with
  | 0, _ => exact ha
  | 1, _ => exact hb
  | 2, _ => exact hc
  | 3, _ => exact hd) 3 (by simp)
theorem mx4_sz {K : Nat} {a b c d : Rat} (ha : SzQ K a) (hb : SzQ K b) (hc : SzQ K c) (hd : SzQ K d) : SzQ K (mxL [a, b, c, d] 3) := mxL_all (p := SzQ K) (fun i hi => by
  match i, hi with
  | 0, _ => exact ha
  | 1, _ => exact hb
  | 2, _ => exact hc
  | 3, _ => exact hd) 3 (by simp)
/-- The range of the products, its lower and its upper end. -/
def mulLo (x y z u : Rat) : Rat := mnL [x * z, x * u, y * z, y * u] 3
def mulHi (x y z u : Rat) : Rat := mxL [x * z, x * u, y * z, y * u] 3
theorem mul_sz {K M : Nat} {x y z u : Rat} (hx : SzQ K x) (hy : SzQ K y) (hz : SzQ M z) (hu : SzQ M u) : SzQ (K + M) (mulLo x y z u) ∧ SzQ (K + M) (mulHi x y z u) :=
  ⟨mn4_sz (.mul hx hz) (.mul hx hu) (.mul hy hz) (.mul hy hu), mx4_sz (.mul hx hz) (.mul hx hu) (.mul hy hz) (.mul hy hu)⟩
theorem p_RMul_ {w : World} {v v' : Value} {x y z u : Rat} (h : PV2 w v x y) (sx : Mid x) (sy : Mid y) (h' : PV2 w v' z u) (sz : Mid z) (su : Mid u) : Calls Try.prog 54 #[v, v'] w (Ret1 (fun w v => PV2 w v (mulLo x y z u) (mulHi x y z u)) w) := p_RMul _ _ _ _ _ _ _ h sx sy h' sz su
def halfQ : Rat := ((1 : Int) : Rat) / ((2 : Int) : Rat)
theorem sc_over_half {w : World} {v v' : Value} (h : PV w v ((1 : Int) : Rat)) (h' : PV w v' ((2 : Int) : Rat)) : Calls Try.prog 48 #[v, v'] w (RetP w halfQ) :=
  sc_over _ _ _ _ _ h h' (SzQ.fit (szQ_int (n := 1) (by decide))) (SzQ.fit (szQ_int (n := 2) (by decide))) (by decide +kernel)
theorem szQ_half : SzQ 2 halfQ := SzQ.mono (szQ_frac (n := 1) (d := 2) (by decide) (by decide) (by decide)) (by omega)

set_option maxRecDepth 100000 in
set_option maxHeartbeats 4000000 in
theorem sc_Depth_ok (vxy : Value) (x y : Rat) (vzu : Value) (z u : Rat) (w : World) (hxy : PV2 w vxy x y) (sx : Mid x) (sy : Mid y) (hzu : PV2 w vzu z u) (sz : Mid z) (su : Mid u) (kx : SzQ 100000 x) (ky : SzQ 100000 y) (kz : SzQ 100000 z) (ku : SzQ 100000 u) (hx0 : 0 ≤ x) (hz0 : 0 ≤ z) :
    Calls Try.prog 28 #[vxy, vzu] w (Ret2 (fun w v => PV2 w v (mulLo (mulLo x y z u) (mulHi x y z u) halfQ halfQ) (mulHi (mulLo x y z u) (mulHi x y z u) halfQ halfQ)) (fun _ v => v = .int .i64 (0)) w) := by
  obtain ⟨shx, ahx, nhx, chx, Ahx, Nhx, Chx, shy, ahy, nhy, chy, Ahy, Nhy, Chy, rfl, hx, hy⟩ := hxy.shape
  clear hxy
  obtain ⟨shz, ahz, nhz, chz, Ahz, Nhz, Chz, shu, ahu, nhu, chu, Ahu, Nhu, Chu, rfl, hz, hu⟩ := hzu.shape
  clear hzu
  have hs := Below.refl w.heap.size w
  have HX := Lib.hid hx0
  have HY := Lib.hid hz0
  clear hx0 hz0
  replace sx := kx
  replace sy := ky
  replace sz := kz
  replace su := ku
  go_enter Try.func28, Try.ntmps28
  go_wp2_with fail
  refine Calls.abs ?_
  intro w1 hW
  have hG : Gr [] w w1 := by rw [hW]; exact (Gr.refl _ _).alloc.alloc.alloc
  have hbw : Below w.heap.size w w1 := hG.below0 hs.size
  have hk : KeepD w w1 := hG.keep True.intro
  have sz_w1 : w.heap.size ≤ w.heap.size := hs.size
  have Bltime : Bx w1 (w.heap.size) 72 #[.bool shx, .slice ahx nhx chx, .slice Ahx Nhx Chx, .bool shy, .slice ahy nhy chy, .slice Ahy Nhy Chy] := by rw [hW]; exact (((Bx.new0 _ _ _).alloc _).alloc _)
  have Blspeed : Bx w1 (w.heap.size + 1) 72 #[.bool shz, .slice ahz nhz chz, .slice Ahz Nhz Chz, .bool shu, .slice ahu nhu chu, .slice Ahu Nhu Chu] := by rw [hW]; exact ((Bx.new0 _ _ _).alloc _)
  have Blk : Bx w1 (w.heap.size + 1 + 1) 72 #[.bool false, .slice none 0 0, .slice none 0 0, .bool false, .slice none 0 0, .slice none 0 0] := by rw [hW]; exact (Bx.new0 _ _ _)
  replace hs := hs.trans hbw
  replace hx := hx.keep hk
  replace hy := hy.keep hk
  replace hz := hz.keep hk
  replace hu := hu.keep hk
  clear hW hG hk hbw
  have hz_w1 : w.heap.size + 1 + 1 < w1.heap.size := Blk.lt
  with_reducible refine (p_Lo _ _ _ _ (PV2.mk hx hy)).mono ?_
  rintro e w2 ⟨_, rfl, h1, hb⟩
  obtain ⟨sh1, ah1, nh1, ch1, Ah1, Nh1, Ch1, rfl⟩ := h1.shape
  replace hs := bStep hs hb
  replace Bltime := Bltime.mono hb
  replace Blspeed := Blspeed.mono hb
  replace Blk := Blk.mono hb
  replace hx := hx.mono hb
  replace hy := hy.mono hb
  replace hz := hz.mono hb
  replace hu := hu.mono hb
  clear hb
  go_wp2_with fail
  with_reducible refine (pSign h1).mono ?_
  rintro e w3 ⟨rfl, hb⟩
  clear h1
  replace hs := bStep hs hb
  replace Bltime := Bltime.mono hb
  replace Blspeed := Blspeed.mono hb
  replace Blk := Blk.mono hb
  replace hx := hx.mono hb
  replace hy := hy.mono hb
  replace hz := hz.mono hb
  replace hu := hu.mono hb
  clear hb
  obtain ⟨sg2, Hsg2⟩ : ∃ s : Int, s = sgQ x := ⟨_, rfl⟩
  rw [← Hsg2]
  replace Hsg2 := Lib.hid Hsg2
  have q3 : ¬ (x < 0) := Rat.not_lt.2 HX.out
  have q3_ : ¬ (sg2 < 0) := by have h := s1_lt x; rw [← Hsg2.out] at h; exact fun h1 => q3 (h.1 h1)
  have q3H := Lib.hid q3
  clear q3
  have q3d : decide (sg2 < 0) = false := decide_eq_false q3_
  have cspeed_0 : w3.cell? ⟨w.heap.size + 1, 0, none⟩ = some (.bool shz) := Blspeed.at 0 rfl
  have cspeed_1 : w3.cell? ⟨w.heap.size + 1, 1, none⟩ = some (.slice ahz nhz chz) := Blspeed.at 1 rfl
  have cspeed_2 : w3.cell? ⟨w.heap.size + 1, 2, none⟩ = some (.slice Ahz Nhz Chz) := Blspeed.at 2 rfl
  have cspeed_3 : w3.cell? ⟨w.heap.size + 1, 3, none⟩ = some (.bool shu) := Blspeed.at 3 rfl
  have cspeed_4 : w3.cell? ⟨w.heap.size + 1, 4, none⟩ = some (.slice ahu nhu chu) := Blspeed.at 4 rfl
  have cspeed_5 : w3.cell? ⟨w.heap.size + 1, 5, none⟩ = some (.slice Ahu Nhu Chu) := Blspeed.at 5 rfl
  have Lspeed : w.heap.size + 1 < w3.heap.size := Blspeed.lt
  go_wp2_with fail
  clear cspeed_0 cspeed_1 cspeed_2 cspeed_3 cspeed_4 cspeed_5 Lspeed
  with_reducible refine (p_Lo _ _ _ _ (PV2.mk hz hu)).mono ?_
  rintro e w4 ⟨_, rfl, h4, hb⟩
  obtain ⟨sh4, ah4, nh4, ch4, Ah4, Nh4, Ch4, rfl⟩ := h4.shape
  replace hs := bStep hs hb
  replace Bltime := Bltime.mono hb
  replace Blspeed := Blspeed.mono hb
  replace Blk := Blk.mono hb
  replace hx := hx.mono hb
  replace hy := hy.mono hb
  replace hz := hz.mono hb
  replace hu := hu.mono hb
  clear hb
  go_wp2_with fail
  with_reducible refine (pSign h4).mono ?_
  rintro e w5 ⟨rfl, hb⟩
  clear h4
  replace hs := bStep hs hb
  replace Bltime := Bltime.mono hb
  replace Blspeed := Blspeed.mono hb
  replace Blk := Blk.mono hb
  replace hx := hx.mono hb
  replace hy := hy.mono hb
  replace hz := hz.mono hb
  replace hu := hu.mono hb
  clear hb
  obtain ⟨sg5, Hsg5⟩ : ∃ s : Int, s = sgQ z := ⟨_, rfl⟩
  rw [← Hsg5]
  replace Hsg5 := Lib.hid Hsg5
  have q6 : ¬ (z < 0) := Rat.not_lt.2 HY.out
  have q6_ : ¬ (sg5 < 0) := by have h := s1_lt z; rw [← Hsg5.out] at h; exact fun h1 => q6 (h.1 h1)
  have q6H := Lib.hid q6
  clear q6
  have q6d : decide (sg5 < 0) = false := decide_eq_false q6_
  go_wp2_with fail
  with_reducible refine (sc_whole 1 _ (by omega) (by omega)).mono ?_
  rintro e w6 ⟨_, rfl, h7, hb⟩
  obtain ⟨sh7, ah7, nh7, ch7, Ah7, Nh7, Ch7, rfl⟩ := h7.shape
  replace hs := bStep hs hb
  replace Bltime := Bltime.mono hb
  replace Blspeed := Blspeed.mono hb
  replace Blk := Blk.mono hb
  replace hx := hx.mono hb
  replace hy := hy.mono hb
  replace hz := hz.mono hb
  replace hu := hu.mono hb
  clear hb
  go_wp2_with fail
  with_reducible refine (sc_whole 2 _ (by omega) (by omega)).mono ?_
  rintro e w7 ⟨_, rfl, h8, hb⟩
  obtain ⟨sh8, ah8, nh8, ch8, Ah8, Nh8, Ch8, rfl⟩ := h8.shape
  replace hs := bStep hs hb
  replace Bltime := Bltime.mono hb
  replace Blspeed := Blspeed.mono hb
  replace Blk := Blk.mono hb
  replace hx := hx.mono hb
  replace hy := hy.mono hb
  replace hz := hz.mono hb
  replace hu := hu.mono hb
  replace h7 := h7.mono hb
  clear hb
  go_wp2_with fail
  with_reducible refine (sc_over_half h7 h8).mono ?_
  rintro e w8 ⟨_, rfl, h9, hb⟩
  obtain ⟨sh9, ah9, nh9, ch9, Ah9, Nh9, Ch9, rfl⟩ := h9.shape
  clear h7 h8
  replace hs := bStep hs hb
  replace Bltime := Bltime.mono hb
  replace Blspeed := Blspeed.mono hb
  replace Blk := Blk.mono hb
  replace hx := hx.mono hb
  replace hy := hy.mono hb
  replace hz := hz.mono hb
  replace hu := hu.mono hb
  clear hb
  go_wp2_with fail
  with_reducible refine (p_Only _ _ _ h9).mono ?_
  rintro e w9 ⟨_, rfl, h10, hb⟩
  obtain ⟨sh10a, ah10a, nh10a, ch10a, Ah10a, Nh10a, Ch10a, sh10b, ah10b, nh10b, ch10b, Ah10b, Nh10b, Ch10b, rfl, h10a, h10b⟩ := h10.shape
  clear h9
  replace hs := bStep hs hb
  replace Bltime := Bltime.mono hb
  replace Blspeed := Blspeed.mono hb
  replace Blk := Blk.mono hb
  replace hx := hx.mono hb
  replace hy := hy.mono hb
  replace hz := hz.mono hb
  replace hu := hu.mono hb
  clear hb
  go_upto_region 4 with fail
  refine Code.abs ?_
  intro w10 hW
  have hG : Gr [] w9 w10 := by rw [hW]; exact (Gr.refl _ _).alloc
  have hbw : Below w.heap.size w9 w10 := hG.below0 hs.size
  have hk : KeepD w9 w10 := hG.keep True.intro
  have sz_w10 : w.heap.size ≤ w9.heap.size := hs.size
  have ntime_w10 : w.heap.size < w9.heap.size := Bltime.lt
  have nspeed_w10 : w.heap.size + 1 < w9.heap.size := Blspeed.lt
  have nk_w10 : w.heap.size + 1 + 1 < w9.heap.size := Blk.lt
  have Blhalf : Bx w10 (w9.heap.size) 72 #[.bool sh10a, .slice ah10a nh10a ch10a, .slice Ah10a Nh10a Ch10a, .bool sh10b, .slice ah10b nh10b ch10b, .slice Ah10b Nh10b Ch10b] := by rw [hW]; exact (Bx.new0 _ _ _)
  replace hs := hs.trans hbw
  replace Bltime := hG.bx Bltime notMem0
  replace Blspeed := hG.bx Blspeed notMem0
  replace Blk := hG.bx Blk notMem0
  replace hx := hx.keep hk
  replace hy := hy.keep hk
  replace hz := hz.keep hk
  replace hu := hu.keep hk
  replace h10a := h10a.keep hk
  replace h10b := h10b.keep hk
  clear hW hG hk hbw
  have hz_w10 : w9.heap.size < w10.heap.size := Blhalf.lt
  refine U_region (S := fun w' => w'.cell? ⟨w.heap.size, 0, none⟩ = some (.bool shx) ∧ w'.cell? ⟨w.heap.size, 1, none⟩ = some (.slice ahx nhx chx) ∧ w'.cell? ⟨w.heap.size, 2, none⟩ = some (.slice Ahx Nhx Chx) ∧ w'.cell? ⟨w.heap.size, 3, none⟩ = some (.bool shy) ∧ w'.cell? ⟨w.heap.size, 4, none⟩ = some (.slice ahy nhy chy) ∧ w'.cell? ⟨w.heap.size, 5, none⟩ = some (.slice Ahy Nhy Chy) ∧ w'.cell? ⟨w.heap.size + 1, 0, none⟩ = some (.bool shz) ∧ w'.cell? ⟨w.heap.size + 1, 1, none⟩ = some (.slice ahz nhz chz) ∧ w'.cell? ⟨w.heap.size + 1, 2, none⟩ = some (.slice Ahz Nhz Chz) ∧ w'.cell? ⟨w.heap.size + 1, 3, none⟩ = some (.bool shu) ∧ w'.cell? ⟨w.heap.size + 1, 4, none⟩ = some (.slice ahu nhu chu) ∧ w'.cell? ⟨w.heap.size + 1, 5, none⟩ = some (.slice Ahu Nhu Chu) ∧ w'.cell? ⟨w9.heap.size, 0, none⟩ = some (.bool sh10a) ∧ w'.cell? ⟨w9.heap.size, 1, none⟩ = some (.slice ah10a nh10a ch10a) ∧ w'.cell? ⟨w9.heap.size, 2, none⟩ = some (.slice Ah10a Nh10a Ch10a) ∧ w'.cell? ⟨w9.heap.size, 3, none⟩ = some (.bool sh10b) ∧ w'.cell? ⟨w9.heap.size, 4, none⟩ = some (.slice ah10b nh10b ch10b) ∧ w'.cell? ⟨w9.heap.size, 5, none⟩ = some (.slice Ah10b Nh10b Ch10b)) (by kernel_rfl) 6 ?_
  refine AnyU.abs ?_
  intro w11 hW
  have hb : Below w10.heap.size w10 w11 := by rw [hW]; exact bDrew _
  replace hs := bStep hs hb
  replace Bltime := Bltime.mono hb
  replace Blspeed := Blspeed.mono hb
  replace Blk := Blk.mono hb
  replace Blhalf := Blhalf.mono hb
  replace hx := hx.mono hb
  replace hy := hy.mono hb
  replace hz := hz.mono hb
  replace hu := hu.mono hb
  replace h10a := h10a.mono hb
  replace h10b := h10b.mono hb
  clear hb hW
  have ctime_0 : w11.cell? ⟨w.heap.size, 0, none⟩ = some (.bool shx) := Bltime.at 0 rfl
  have ctime_1 : w11.cell? ⟨w.heap.size, 1, none⟩ = some (.slice ahx nhx chx) := Bltime.at 1 rfl
  have ctime_2 : w11.cell? ⟨w.heap.size, 2, none⟩ = some (.slice Ahx Nhx Chx) := Bltime.at 2 rfl
  have ctime_3 : w11.cell? ⟨w.heap.size, 3, none⟩ = some (.bool shy) := Bltime.at 3 rfl
  have ctime_4 : w11.cell? ⟨w.heap.size, 4, none⟩ = some (.slice ahy nhy chy) := Bltime.at 4 rfl
  have ctime_5 : w11.cell? ⟨w.heap.size, 5, none⟩ = some (.slice Ahy Nhy Chy) := Bltime.at 5 rfl
  have cspeed_0 : w11.cell? ⟨w.heap.size + 1, 0, none⟩ = some (.bool shz) := Blspeed.at 0 rfl
  have cspeed_1 : w11.cell? ⟨w.heap.size + 1, 1, none⟩ = some (.slice ahz nhz chz) := Blspeed.at 1 rfl
  have cspeed_2 : w11.cell? ⟨w.heap.size + 1, 2, none⟩ = some (.slice Ahz Nhz Chz) := Blspeed.at 2 rfl
  have cspeed_3 : w11.cell? ⟨w.heap.size + 1, 3, none⟩ = some (.bool shu) := Blspeed.at 3 rfl
  have cspeed_4 : w11.cell? ⟨w.heap.size + 1, 4, none⟩ = some (.slice ahu nhu chu) := Blspeed.at 4 rfl
  have cspeed_5 : w11.cell? ⟨w.heap.size + 1, 5, none⟩ = some (.slice Ahu Nhu Chu) := Blspeed.at 5 rfl
  have chalf_0 : w11.cell? ⟨w9.heap.size, 0, none⟩ = some (.bool sh10a) := Blhalf.at 0 rfl
  have chalf_1 : w11.cell? ⟨w9.heap.size, 1, none⟩ = some (.slice ah10a nh10a ch10a) := Blhalf.at 1 rfl
  have chalf_2 : w11.cell? ⟨w9.heap.size, 2, none⟩ = some (.slice Ah10a Nh10a Ch10a) := Blhalf.at 2 rfl
  have chalf_3 : w11.cell? ⟨w9.heap.size, 3, none⟩ = some (.bool sh10b) := Blhalf.at 3 rfl
  have chalf_4 : w11.cell? ⟨w9.heap.size, 4, none⟩ = some (.slice ah10b nh10b ch10b) := Blhalf.at 4 rfl
  have chalf_5 : w11.cell? ⟨w9.heap.size, 5, none⟩ = some (.slice Ah10b Nh10b Ch10b) := Blhalf.at 5 rfl
  have hH := (show w11.cell? ⟨w.heap.size, 0, none⟩ = some (.bool shx) ∧ w11.cell? ⟨w.heap.size, 1, none⟩ = some (.slice ahx nhx chx) ∧ w11.cell? ⟨w.heap.size, 2, none⟩ = some (.slice Ahx Nhx Chx) ∧ w11.cell? ⟨w.heap.size, 3, none⟩ = some (.bool shy) ∧ w11.cell? ⟨w.heap.size, 4, none⟩ = some (.slice ahy nhy chy) ∧ w11.cell? ⟨w.heap.size, 5, none⟩ = some (.slice Ahy Nhy Chy) ∧ w11.cell? ⟨w.heap.size + 1, 0, none⟩ = some (.bool shz) ∧ w11.cell? ⟨w.heap.size + 1, 1, none⟩ = some (.slice ahz nhz chz) ∧ w11.cell? ⟨w.heap.size + 1, 2, none⟩ = some (.slice Ahz Nhz Chz) ∧ w11.cell? ⟨w.heap.size + 1, 3, none⟩ = some (.bool shu) ∧ w11.cell? ⟨w.heap.size + 1, 4, none⟩ = some (.slice ahu nhu chu) ∧ w11.cell? ⟨w.heap.size + 1, 5, none⟩ = some (.slice Ahu Nhu Chu) ∧ w11.cell? ⟨w9.heap.size, 0, none⟩ = some (.bool sh10a) ∧ w11.cell? ⟨w9.heap.size, 1, none⟩ = some (.slice ah10a nh10a ch10a) ∧ w11.cell? ⟨w9.heap.size, 2, none⟩ = some (.slice Ah10a Nh10a Ch10a) ∧ w11.cell? ⟨w9.heap.size, 3, none⟩ = some (.bool sh10b) ∧ w11.cell? ⟨w9.heap.size, 4, none⟩ = some (.slice ah10b nh10b ch10b) ∧ w11.cell? ⟨w9.heap.size, 5, none⟩ = some (.slice Ah10b Nh10b Ch10b) from ⟨ctime_0, ctime_1, ctime_2, ctime_3, ctime_4, ctime_5, cspeed_0, cspeed_1, cspeed_2, cspeed_3, cspeed_4, cspeed_5, chalf_0, chalf_1, chalf_2, chalf_3, chalf_4, chalf_5⟩)
  refine U_take (i := 0) (v := ?_) rfl (by kernel_rfl) (by kernel_rfl) (by kernel_rfl) (by kernel_rfl) (fun _ _ _ h => h) (Or.inl ⟨by rfl, ?_⟩) hH ?_
  rotate_left
  · intro w hSw
    try dsimp only at hSw
    go_simp
    try with_reducible rfl
  try simp only [Act.put, List.setIfInBounds_toArray, List.set_cons_zero, List.set_cons_succ]
  refine U_take (i := 1) (v := ?_) rfl (by kernel_rfl) (by kernel_rfl) (by kernel_rfl) (by kernel_rfl) (fun _ _ _ h => h) (Or.inl ⟨by rfl, ?_⟩) hH ?_
  rotate_left
  · intro w hSw
    try dsimp only at hSw
    go_simp
    try with_reducible rfl
  try simp only [Act.put, List.setIfInBounds_toArray, List.set_cons_zero, List.set_cons_succ]
  refine U_take (i := 3) (v := ?_) rfl (by kernel_rfl) (by kernel_rfl) (by kernel_rfl) (by kernel_rfl) (fun _ _ _ h => h) (Or.inl ⟨by rfl, ?_⟩) hH ?_
  rotate_left
  · intro w hSw
    try dsimp only at hSw
    go_simp
    try with_reducible rfl
  try simp only [Act.put, List.setIfInBounds_toArray, List.set_cons_zero, List.set_cons_succ]
  clear hH
  refine U_one (i := 2) (by kernel_rfl) rfl (fun K hK => ?_)
  go_simp
  (with_reducible refine (p_RMul_ (PV2.mk hx hy) (SzQ.mid sx) (SzQ.mid sy) (PV2.mk hz hu) (SzQ.mid sz) (SzQ.mid su)).mono ?_)
  rintro e w12 ⟨_, rfl, h11, hb⟩
  obtain ⟨sh11a, ah11a, nh11a, ch11a, Ah11a, Nh11a, Ch11a, sh11b, ah11b, nh11b, ch11b, Ah11b, Nh11b, Ch11b, rfl, h11a, h11b⟩ := h11.shape
  replace hs := bStep hs hb
  replace Bltime := Bltime.mono hb
  replace Blspeed := Blspeed.mono hb
  replace Blk := Blk.mono hb
  replace Blhalf := Blhalf.mono hb
  replace hx := hx.mono hb
  replace hy := hy.mono hb
  replace hz := hz.mono hb
  replace hu := hu.mono hb
  replace h10a := h10a.mono hb
  replace h10b := h10b.mono hb
  replace ctime_0 := cellK ctime_0 hb
  replace ctime_1 := cellK ctime_1 hb
  replace ctime_2 := cellK ctime_2 hb
  replace ctime_3 := cellK ctime_3 hb
  replace ctime_4 := cellK ctime_4 hb
  replace ctime_5 := cellK ctime_5 hb
  replace cspeed_0 := cellK cspeed_0 hb
  replace cspeed_1 := cellK cspeed_1 hb
  replace cspeed_2 := cellK cspeed_2 hb
  replace cspeed_3 := cellK cspeed_3 hb
  replace cspeed_4 := cellK cspeed_4 hb
  replace cspeed_5 := cellK cspeed_5 hb
  replace chalf_0 := cellK chalf_0 hb
  replace chalf_1 := cellK chalf_1 hb
  replace chalf_2 := cellK chalf_2 hb
  replace chalf_3 := cellK chalf_3 hb
  replace chalf_4 := cellK chalf_4 hb
  replace chalf_5 := cellK chalf_5 hb
  clear hb
  try go_wp2_with fail
  refine hK.out _ _ ⟨ctime_0, ctime_1, ctime_2, ctime_3, ctime_4, ctime_5, cspeed_0, cspeed_1, cspeed_2, cspeed_3, cspeed_4, cspeed_5, chalf_0, chalf_1, chalf_2, chalf_3, chalf_4, chalf_5⟩ (fun hH => ?_)
  clear hK K
  try simp only [Act.put, List.setIfInBounds_toArray, List.set_cons_zero, List.set_cons_succ]
  clear hH
  refine U_one (i := 4) (by kernel_rfl) rfl (fun K hK => ?_)
  go_simp
  (with_reducible refine (p_RMul_ (PV2.mk h11a h11b) (SzQ.mid (mul_sz sx sy sz su).1) (SzQ.mid (mul_sz sx sy sz su).2) (PV2.mk h10a h10b) (SzQ.mid szQ_half) (SzQ.mid szQ_half)).mono ?_)
  rintro e w13 ⟨_, rfl, h12, hb⟩
  obtain ⟨sh12a, ah12a, nh12a, ch12a, Ah12a, Nh12a, Ch12a, sh12b, ah12b, nh12b, ch12b, Ah12b, Nh12b, Ch12b, rfl, h12a, h12b⟩ := h12.shape
  replace hs := bStep hs hb
  replace Bltime := Bltime.mono hb
  replace Blspeed := Blspeed.mono hb
  replace Blk := Blk.mono hb
  replace Blhalf := Blhalf.mono hb
  replace hx := hx.mono hb
  replace hy := hy.mono hb
  replace hz := hz.mono hb
  replace hu := hu.mono hb
  replace h10a := h10a.mono hb
  replace h10b := h10b.mono hb
  replace h11a := h11a.mono hb
  replace h11b := h11b.mono hb
  replace ctime_0 := cellK ctime_0 hb
  replace ctime_1 := cellK ctime_1 hb
  replace ctime_2 := cellK ctime_2 hb
  replace ctime_3 := cellK ctime_3 hb
  replace ctime_4 := cellK ctime_4 hb
  replace ctime_5 := cellK ctime_5 hb
  replace cspeed_0 := cellK cspeed_0 hb
  replace cspeed_1 := cellK cspeed_1 hb
  replace cspeed_2 := cellK cspeed_2 hb
  replace cspeed_3 := cellK cspeed_3 hb
  replace cspeed_4 := cellK cspeed_4 hb
  replace cspeed_5 := cellK cspeed_5 hb
  replace chalf_0 := cellK chalf_0 hb
  replace chalf_1 := cellK chalf_1 hb
  replace chalf_2 := cellK chalf_2 hb
  replace chalf_3 := cellK chalf_3 hb
  replace chalf_4 := cellK chalf_4 hb
  replace chalf_5 := cellK chalf_5 hb
  clear hb
  try go_wp2_with fail
  refine hK.out _ _ ⟨ctime_0, ctime_1, ctime_2, ctime_3, ctime_4, ctime_5, cspeed_0, cspeed_1, cspeed_2, cspeed_3, cspeed_4, cspeed_5, chalf_0, chalf_1, chalf_2, chalf_3, chalf_4, chalf_5⟩ (fun hH => ?_)
  clear hK K
  try simp only [Act.put, List.setIfInBounds_toArray, List.set_cons_zero, List.set_cons_succ]
  clear hH
  have ck_0 : w13.cell? ⟨w.heap.size + 1 + 1, 0, none⟩ = some (.bool false) := Blk.at 0 rfl
  have ck_1 : w13.cell? ⟨w.heap.size + 1 + 1, 1, none⟩ = some (.slice none 0 0) := Blk.at 1 rfl
  have ck_2 : w13.cell? ⟨w.heap.size + 1 + 1, 2, none⟩ = some (.slice none 0 0) := Blk.at 2 rfl
  have ck_3 : w13.cell? ⟨w.heap.size + 1 + 1, 3, none⟩ = some (.bool false) := Blk.at 3 rfl
  have ck_4 : w13.cell? ⟨w.heap.size + 1 + 1, 4, none⟩ = some (.slice none 0 0) := Blk.at 4 rfl
  have ck_5 : w13.cell? ⟨w.heap.size + 1 + 1, 5, none⟩ = some (.slice none 0 0) := Blk.at 5 rfl
  have fk := Blk.free
  have Lk : w.heap.size + 1 + 1 < w13.heap.size := Blk.lt
  refine U_one (i := 5) (by kernel_rfl) rfl (fun K hK => ?_)
  go_simp
  generalize hW_ : ((((((w13.setCell ⟨w.heap.size + 1 + 1, 0, none⟩ (.bool sh12a)).setCell ⟨w.heap.size + 1 + 1, 1, none⟩ (.slice ah12a nh12a ch12a)).setCell ⟨w.heap.size + 1 + 1, 2, none⟩ (.slice Ah12a Nh12a Ch12a)).setCell ⟨w.heap.size + 1 + 1, 3, none⟩ (.bool sh12b)).setCell ⟨w.heap.size + 1 + 1, 4, none⟩ (.slice ah12b nh12b ch12b)).setCell ⟨w.heap.size + 1 + 1, 5, none⟩ (.slice Ah12b Nh12b Ch12b)) = w14
  have hW := hW_.symm
  clear hW_
  have hG : Gr [w.heap.size + 1 + 1] w13 w14 := by rw [hW]; exact (Gr.refl _ _).set.set.set.set.set.set
  have hsz := hs.size
  have lk := Blk.lt
  have hbw : Below w.heap.size w13 w14 := hG.below1 hs.size (by first | omega | assumption)
  have hk : KeepD w13 w14 := hG.keep ⟨⟨_, Blk.ty, by decide⟩, True.intro⟩
  have Bl1k : Bx w14 (w.heap.size + 1 + 1) 72 #[.bool sh12a, .slice ah12a nh12a ch12a, .slice Ah12a Nh12a Ch12a, .bool sh12b, .slice ah12b nh12b ch12b, .slice Ah12b Nh12b Ch12b] := by rw [hW]; exact Blk.set6
  replace hs := hs.trans hbw
  replace Bltime := hG.bx Bltime (notMem1 (by omega))
  replace Blspeed := hG.bx Blspeed (notMem1 (by omega))
  replace Blhalf := hG.bx Blhalf (notMem1 (by omega))
  replace Blk := Bl1k
  clear Bl1k
  replace hx := hx.keep hk
  replace hy := hy.keep hk
  replace hz := hz.keep hk
  replace hu := hu.keep hk
  replace h10a := h10a.keep hk
  replace h10b := h10b.keep hk
  replace h11a := h11a.keep hk
  replace h11b := h11b.keep hk
  replace h12a := h12a.keep hk
  replace h12b := h12b.keep hk
  replace ctime_0 := hG.cell ctime_0 (notMem1 (by dsimp only; omega))
  replace ctime_1 := hG.cell ctime_1 (notMem1 (by dsimp only; omega))
  replace ctime_2 := hG.cell ctime_2 (notMem1 (by dsimp only; omega))
  replace ctime_3 := hG.cell ctime_3 (notMem1 (by dsimp only; omega))
  replace ctime_4 := hG.cell ctime_4 (notMem1 (by dsimp only; omega))
  replace ctime_5 := hG.cell ctime_5 (notMem1 (by dsimp only; omega))
  replace cspeed_0 := hG.cell cspeed_0 (notMem1 (by dsimp only; omega))
  replace cspeed_1 := hG.cell cspeed_1 (notMem1 (by dsimp only; omega))
  replace cspeed_2 := hG.cell cspeed_2 (notMem1 (by dsimp only; omega))
  replace cspeed_3 := hG.cell cspeed_3 (notMem1 (by dsimp only; omega))
  replace cspeed_4 := hG.cell cspeed_4 (notMem1 (by dsimp only; omega))
  replace cspeed_5 := hG.cell cspeed_5 (notMem1 (by dsimp only; omega))
  replace chalf_0 := hG.cell chalf_0 (notMem1 (by dsimp only; omega))
  replace chalf_1 := hG.cell chalf_1 (notMem1 (by dsimp only; omega))
  replace chalf_2 := hG.cell chalf_2 (notMem1 (by dsimp only; omega))
  replace chalf_3 := hG.cell chalf_3 (notMem1 (by dsimp only; omega))
  replace chalf_4 := hG.cell chalf_4 (notMem1 (by dsimp only; omega))
  replace chalf_5 := hG.cell chalf_5 (notMem1 (by dsimp only; omega))
  clear hW hG hk hbw hsz lk
  refine hK.out _ _ ⟨ctime_0, ctime_1, ctime_2, ctime_3, ctime_4, ctime_5, cspeed_0, cspeed_1, cspeed_2, cspeed_3, cspeed_4, cspeed_5, chalf_0, chalf_1, chalf_2, chalf_3, chalf_4, chalf_5⟩ (fun hH => ?_)
  clear hK K
  try simp only [Act.put, List.setIfInBounds_toArray, List.set_cons_zero, List.set_cons_succ]
  clear hH
  refine U_last (by kernel_rfl) rfl (by kernel_rfl) (fun K hK => ?_)
  go_simp
  refine hK.out _ _ ?_
  clear hK K
  intro wl hW
  rw [hW]
  clear hW wl
  try simp only [Act.put, List.setIfInBounds_toArray, List.set_cons_zero, List.set_cons_succ]
  clear ctime_0 ctime_1 ctime_2 ctime_3 ctime_4 ctime_5 cspeed_0 cspeed_1 cspeed_2 cspeed_3 cspeed_4 cspeed_5 chalf_0 chalf_1 chalf_2 chalf_3 chalf_4 chalf_5
  go_wp2
  have ck_0 : w14.cell? ⟨w.heap.size + 1 + 1, 0, none⟩ = some (.bool sh12a) := Blk.at 0 rfl
  have ck_1 : w14.cell? ⟨w.heap.size + 1 + 1, 1, none⟩ = some (.slice ah12a nh12a ch12a) := Blk.at 1 rfl
  have ck_2 : w14.cell? ⟨w.heap.size + 1 + 1, 2, none⟩ = some (.slice Ah12a Nh12a Ch12a) := Blk.at 2 rfl
  have ck_3 : w14.cell? ⟨w.heap.size + 1 + 1, 3, none⟩ = some (.bool sh12b) := Blk.at 3 rfl
  have ck_4 : w14.cell? ⟨w.heap.size + 1 + 1, 4, none⟩ = some (.slice ah12b nh12b ch12b) := Blk.at 4 rfl
  have ck_5 : w14.cell? ⟨w.heap.size + 1 + 1, 5, none⟩ = some (.slice Ah12b Nh12b Ch12b) := Blk.at 5 rfl
  exact bodyPost_ret (v := .tuple #[.agg #[.bool sh12a, .slice ah12a nh12a ch12a, .slice Ah12a Nh12a Ch12a, .bool sh12b, .slice ah12b nh12b ch12b, .slice Ah12b Nh12b Ch12b], .int .i64 0]) (by simp [results, Try.results28, go_sem, ck_0, ck_1, ck_2, ck_3, ck_4, ck_5]) rfl ⟨_, _, rfl, (PV2.mk h12a h12b), rfl, hs⟩

set_option maxRecDepth 100000 in
set_option maxHeartbeats 4000000 in
theorem sc_Depth_bad1 (vxy : Value) (x y : Rat) (vzu : Value) (z u : Rat) (w : World) (hxy : PV2 w vxy x y) (sx : Mid x) (sy : Mid y) (hzu : PV2 w vzu z u) (sz : Mid z) (su : Mid u) (hx0 : x < 0) :
    Calls Try.prog 28 #[vxy, vzu] w (Ret2 (fun w v => PV2 w v (0) (0)) (fun _ v => v = .int .i64 (1)) w) := by
  obtain ⟨shx, ahx, nhx, chx, Ahx, Nhx, Chx, shy, ahy, nhy, chy, Ahy, Nhy, Chy, rfl, hx, hy⟩ := hxy.shape
  clear hxy
  obtain ⟨shz, ahz, nhz, chz, Ahz, Nhz, Chz, shu, ahu, nhu, chu, Ahu, Nhu, Chu, rfl, hz, hu⟩ := hzu.shape
  clear hzu
  have hs := Below.refl w.heap.size w
  have HX := Lib.hid hx0
  clear hx0
  go_enter Try.func28, Try.ntmps28
  go_wp2_with fail
  refine Calls.abs ?_
  intro w1 hW
  have hG : Gr [] w w1 := by rw [hW]; exact (Gr.refl _ _).alloc.alloc.alloc
  have hbw : Below w.heap.size w w1 := hG.below0 hs.size
  have hk : KeepD w w1 := hG.keep True.intro
  have sz_w1 : w.heap.size ≤ w.heap.size := hs.size
  have Bltime : Bx w1 (w.heap.size) 72 #[.bool shx, .slice ahx nhx chx, .slice Ahx Nhx Chx, .bool shy, .slice ahy nhy chy, .slice Ahy Nhy Chy] := by rw [hW]; exact (((Bx.new0 _ _ _).alloc _).alloc _)
  have Blspeed : Bx w1 (w.heap.size + 1) 72 #[.bool shz, .slice ahz nhz chz, .slice Ahz Nhz Chz, .bool shu, .slice ahu nhu chu, .slice Ahu Nhu Chu] := by rw [hW]; exact ((Bx.new0 _ _ _).alloc _)
  have Blk : Bx w1 (w.heap.size + 1 + 1) 72 #[.bool false, .slice none 0 0, .slice none 0 0, .bool false, .slice none 0 0, .slice none 0 0] := by rw [hW]; exact (Bx.new0 _ _ _)
  replace hs := hs.trans hbw
  replace hx := hx.keep hk
  replace hy := hy.keep hk
  replace hz := hz.keep hk
  replace hu := hu.keep hk
  clear hW hG hk hbw
  have hz_w1 : w.heap.size + 1 + 1 < w1.heap.size := Blk.lt
  with_reducible refine (p_Lo _ _ _ _ (PV2.mk hx hy)).mono ?_
  rintro e w2 ⟨_, rfl, h1, hb⟩
  obtain ⟨sh1, ah1, nh1, ch1, Ah1, Nh1, Ch1, rfl⟩ := h1.shape
  replace hs := bStep hs hb
  replace Bltime := Bltime.mono hb
  replace Blspeed := Blspeed.mono hb
  replace Blk := Blk.mono hb
  replace hx := hx.mono hb
  replace hy := hy.mono hb
  replace hz := hz.mono hb
  replace hu := hu.mono hb
  clear hb
  go_wp2_with fail
  with_reducible refine (pSign h1).mono ?_
  rintro e w3 ⟨rfl, hb⟩
  clear h1
  replace hs := bStep hs hb
  replace Bltime := Bltime.mono hb
  replace Blspeed := Blspeed.mono hb
  replace Blk := Blk.mono hb
  replace hx := hx.mono hb
  replace hy := hy.mono hb
  replace hz := hz.mono hb
  replace hu := hu.mono hb
  clear hb
  obtain ⟨sg2, Hsg2⟩ : ∃ s : Int, s = sgQ x := ⟨_, rfl⟩
  rw [← Hsg2]
  replace Hsg2 := Lib.hid Hsg2
  have q3 : x < 0 := HX.out
  have q3_ : sg2 < 0 := by have h := s1_lt x; rw [← Hsg2.out] at h; exact h.2 q3
  have q3H := Lib.hid q3
  clear q3
  have q3d : decide (sg2 < 0) = true := decide_eq_true q3_
  have ck_0 : w3.cell? ⟨w.heap.size + 1 + 1, 0, none⟩ = some (.bool false) := Blk.at 0 rfl
  have ck_1 : w3.cell? ⟨w.heap.size + 1 + 1, 1, none⟩ = some (.slice none 0 0) := Blk.at 1 rfl
  have ck_2 : w3.cell? ⟨w.heap.size + 1 + 1, 2, none⟩ = some (.slice none 0 0) := Blk.at 2 rfl
  have ck_3 : w3.cell? ⟨w.heap.size + 1 + 1, 3, none⟩ = some (.bool false) := Blk.at 3 rfl
  have ck_4 : w3.cell? ⟨w.heap.size + 1 + 1, 4, none⟩ = some (.slice none 0 0) := Blk.at 4 rfl
  have ck_5 : w3.cell? ⟨w.heap.size + 1 + 1, 5, none⟩ = some (.slice none 0 0) := Blk.at 5 rfl
  have fk := Blk.free
  have Lk : w.heap.size + 1 + 1 < w3.heap.size := Blk.lt
  go_wp2
  clear ck_0 ck_1 ck_2 ck_3 ck_4 ck_5 fk Lk
  refine bodyPost.abs ?_
  intro w4 hW
  have hG : Gr [w.heap.size + 1 + 1] w3 w4 := by rw [hW]; exact (Gr.refl _ _).set.set.set.set.set.set
  have hsz := hs.size
  have lk := Blk.lt
  have hbw : Below w.heap.size w3 w4 := hG.below1 hs.size (by first | omega | assumption)
  have hk : KeepD w3 w4 := hG.keep ⟨⟨_, Blk.ty, by decide⟩, True.intro⟩
  have Bl1k : Bx w4 (w.heap.size + 1 + 1) 72 #[.bool false, .slice none 0 0, .slice none 0 0, .bool false, .slice none 0 0, .slice none 0 0] := by rw [hW]; exact Blk.set6
  replace hs := hs.trans hbw
  replace Bltime := hG.bx Bltime (notMem1 (by omega))
  replace Blspeed := hG.bx Blspeed (notMem1 (by omega))
  replace Blk := Bl1k
  clear Bl1k
  replace hx := hx.keep hk
  replace hy := hy.keep hk
  replace hz := hz.keep hk
  replace hu := hu.keep hk
  clear hW hG hk hbw hsz lk
  have ck_0 : w4.cell? ⟨w.heap.size + 1 + 1, 0, none⟩ = some (.bool false) := Blk.at 0 rfl
  have ck_1 : w4.cell? ⟨w.heap.size + 1 + 1, 1, none⟩ = some (.slice none 0 0) := Blk.at 1 rfl
  have ck_2 : w4.cell? ⟨w.heap.size + 1 + 1, 2, none⟩ = some (.slice none 0 0) := Blk.at 2 rfl
  have ck_3 : w4.cell? ⟨w.heap.size + 1 + 1, 3, none⟩ = some (.bool false) := Blk.at 3 rfl
  have ck_4 : w4.cell? ⟨w.heap.size + 1 + 1, 4, none⟩ = some (.slice none 0 0) := Blk.at 4 rfl
  have ck_5 : w4.cell? ⟨w.heap.size + 1 + 1, 5, none⟩ = some (.slice none 0 0) := Blk.at 5 rfl
  exact bodyPost_ret (v := .tuple #[.agg #[.bool false, .slice none 0 0, .slice none 0 0, .bool false, .slice none 0 0, .slice none 0 0], .int .i64 1]) (by simp [results, Try.results28, go_sem, ck_0, ck_1, ck_2, ck_3, ck_4, ck_5]) rfl ⟨_, _, rfl, (PV2.mk (PV.zero _) (PV.zero _)), rfl, hs⟩

set_option maxRecDepth 100000 in
set_option maxHeartbeats 4000000 in
theorem sc_Depth_bad2 (vxy : Value) (x y : Rat) (vzu : Value) (z u : Rat) (w : World) (hxy : PV2 w vxy x y) (sx : Mid x) (sy : Mid y) (hzu : PV2 w vzu z u) (sz : Mid z) (su : Mid u) (hx0 : 0 ≤ x) (hz0 : z < 0) :
    Calls Try.prog 28 #[vxy, vzu] w (Ret2 (fun w v => PV2 w v (0) (0)) (fun _ v => v = .int .i64 (1)) w) := by
  obtain ⟨shx, ahx, nhx, chx, Ahx, Nhx, Chx, shy, ahy, nhy, chy, Ahy, Nhy, Chy, rfl, hx, hy⟩ := hxy.shape
  clear hxy
  obtain ⟨shz, ahz, nhz, chz, Ahz, Nhz, Chz, shu, ahu, nhu, chu, Ahu, Nhu, Chu, rfl, hz, hu⟩ := hzu.shape
  clear hzu
  have hs := Below.refl w.heap.size w
  have HX := Lib.hid hx0
  have HY := Lib.hid hz0
  clear hx0 hz0
  go_enter Try.func28, Try.ntmps28
  go_wp2_with fail
  refine Calls.abs ?_
  intro w1 hW
  have hG : Gr [] w w1 := by rw [hW]; exact (Gr.refl _ _).alloc.alloc.alloc
  have hbw : Below w.heap.size w w1 := hG.below0 hs.size
  have hk : KeepD w w1 := hG.keep True.intro
  have sz_w1 : w.heap.size ≤ w.heap.size := hs.size
  have Bltime : Bx w1 (w.heap.size) 72 #[.bool shx, .slice ahx nhx chx, .slice Ahx Nhx Chx, .bool shy, .slice ahy nhy chy, .slice Ahy Nhy Chy] := by rw [hW]; exact (((Bx.new0 _ _ _).alloc _).alloc _)
  have Blspeed : Bx w1 (w.heap.size + 1) 72 #[.bool shz, .slice ahz nhz chz, .slice Ahz Nhz Chz, .bool shu, .slice ahu nhu chu, .slice Ahu Nhu Chu] := by rw [hW]; exact ((Bx.new0 _ _ _).alloc _)
  have Blk : Bx w1 (w.heap.size + 1 + 1) 72 #[.bool false, .slice none 0 0, .slice none 0 0, .bool false, .slice none 0 0, .slice none 0 0] := by rw [hW]; exact (Bx.new0 _ _ _)
  replace hs := hs.trans hbw
  replace hx := hx.keep hk
  replace hy := hy.keep hk
  replace hz := hz.keep hk
  replace hu := hu.keep hk
  clear hW hG hk hbw
  have hz_w1 : w.heap.size + 1 + 1 < w1.heap.size := Blk.lt
  with_reducible refine (p_Lo _ _ _ _ (PV2.mk hx hy)).mono ?_
  rintro e w2 ⟨_, rfl, h1, hb⟩
  obtain ⟨sh1, ah1, nh1, ch1, Ah1, Nh1, Ch1, rfl⟩ := h1.shape
  replace hs := bStep hs hb
  replace Bltime := Bltime.mono hb
  replace Blspeed := Blspeed.mono hb
  replace Blk := Blk.mono hb
  replace hx := hx.mono hb
  replace hy := hy.mono hb
  replace hz := hz.mono hb
  replace hu := hu.mono hb
  clear hb
  go_wp2_with fail
  with_reducible refine (pSign h1).mono ?_
  rintro e w3 ⟨rfl, hb⟩
  clear h1
  replace hs := bStep hs hb
  replace Bltime := Bltime.mono hb
  replace Blspeed := Blspeed.mono hb
  replace Blk := Blk.mono hb
  replace hx := hx.mono hb
  replace hy := hy.mono hb
  replace hz := hz.mono hb
  replace hu := hu.mono hb
  clear hb
  obtain ⟨sg2, Hsg2⟩ : ∃ s : Int, s = sgQ x := ⟨_, rfl⟩
  rw [← Hsg2]
  replace Hsg2 := Lib.hid Hsg2
  have q3 : ¬ (x < 0) := Rat.not_lt.2 HX.out
  have q3_ : ¬ (sg2 < 0) := by have h := s1_lt x; rw [← Hsg2.out] at h; exact fun h1 => q3 (h.1 h1)
  have q3H := Lib.hid q3
  clear q3
  have q3d : decide (sg2 < 0) = false := decide_eq_false q3_
  have cspeed_0 : w3.cell? ⟨w.heap.size + 1, 0, none⟩ = some (.bool shz) := Blspeed.at 0 rfl
  have cspeed_1 : w3.cell? ⟨w.heap.size + 1, 1, none⟩ = some (.slice ahz nhz chz) := Blspeed.at 1 rfl
  have cspeed_2 : w3.cell? ⟨w.heap.size + 1, 2, none⟩ = some (.slice Ahz Nhz Chz) := Blspeed.at 2 rfl
  have cspeed_3 : w3.cell? ⟨w.heap.size + 1, 3, none⟩ = some (.bool shu) := Blspeed.at 3 rfl
  have cspeed_4 : w3.cell? ⟨w.heap.size + 1, 4, none⟩ = some (.slice ahu nhu chu) := Blspeed.at 4 rfl
  have cspeed_5 : w3.cell? ⟨w.heap.size + 1, 5, none⟩ = some (.slice Ahu Nhu Chu) := Blspeed.at 5 rfl
  have Lspeed : w.heap.size + 1 < w3.heap.size := Blspeed.lt
  go_wp2_with fail
  clear cspeed_0 cspeed_1 cspeed_2 cspeed_3 cspeed_4 cspeed_5 Lspeed
  with_reducible refine (p_Lo _ _ _ _ (PV2.mk hz hu)).mono ?_
  rintro e w4 ⟨_, rfl, h4, hb⟩
  obtain ⟨sh4, ah4, nh4, ch4, Ah4, Nh4, Ch4, rfl⟩ := h4.shape
  replace hs := bStep hs hb
  replace Bltime := Bltime.mono hb
  replace Blspeed := Blspeed.mono hb
  replace Blk := Blk.mono hb
  replace hx := hx.mono hb
  replace hy := hy.mono hb
  replace hz := hz.mono hb
  replace hu := hu.mono hb
  clear hb
  go_wp2_with fail
  with_reducible refine (pSign h4).mono ?_
  rintro e w5 ⟨rfl, hb⟩
  clear h4
  replace hs := bStep hs hb
  replace Bltime := Bltime.mono hb
  replace Blspeed := Blspeed.mono hb
  replace Blk := Blk.mono hb
  replace hx := hx.mono hb
  replace hy := hy.mono hb
  replace hz := hz.mono hb
  replace hu := hu.mono hb
  clear hb
  obtain ⟨sg5, Hsg5⟩ : ∃ s : Int, s = sgQ z := ⟨_, rfl⟩
  rw [← Hsg5]
  replace Hsg5 := Lib.hid Hsg5
  have q6 : z < 0 := HY.out
  have q6_ : sg5 < 0 := by have h := s1_lt z; rw [← Hsg5.out] at h; exact h.2 q6
  have q6H := Lib.hid q6
  clear q6
  have q6d : decide (sg5 < 0) = true := decide_eq_true q6_
  have ck_0 : w5.cell? ⟨w.heap.size + 1 + 1, 0, none⟩ = some (.bool false) := Blk.at 0 rfl
  have ck_1 : w5.cell? ⟨w.heap.size + 1 + 1, 1, none⟩ = some (.slice none 0 0) := Blk.at 1 rfl
  have ck_2 : w5.cell? ⟨w.heap.size + 1 + 1, 2, none⟩ = some (.slice none 0 0) := Blk.at 2 rfl
  have ck_3 : w5.cell? ⟨w.heap.size + 1 + 1, 3, none⟩ = some (.bool false) := Blk.at 3 rfl
  have ck_4 : w5.cell? ⟨w.heap.size + 1 + 1, 4, none⟩ = some (.slice none 0 0) := Blk.at 4 rfl
  have ck_5 : w5.cell? ⟨w.heap.size + 1 + 1, 5, none⟩ = some (.slice none 0 0) := Blk.at 5 rfl
  have fk := Blk.free
  have Lk : w.heap.size + 1 + 1 < w5.heap.size := Blk.lt
  go_wp2
  clear ck_0 ck_1 ck_2 ck_3 ck_4 ck_5 fk Lk
  refine bodyPost.abs ?_
  intro w6 hW
  have hG : Gr [w.heap.size + 1 + 1] w5 w6 := by rw [hW]; exact (Gr.refl _ _).set.set.set.set.set.set
  have hsz := hs.size
  have lk := Blk.lt
  have hbw : Below w.heap.size w5 w6 := hG.below1 hs.size (by first | omega | assumption)
  have hk : KeepD w5 w6 := hG.keep ⟨⟨_, Blk.ty, by decide⟩, True.intro⟩
  have Bl1k : Bx w6 (w.heap.size + 1 + 1) 72 #[.bool false, .slice none 0 0, .slice none 0 0, .bool false, .slice none 0 0, .slice none 0 0] := by rw [hW]; exact Blk.set6
  replace hs := hs.trans hbw
  replace Bltime := hG.bx Bltime (notMem1 (by omega))
  replace Blspeed := hG.bx Blspeed (notMem1 (by omega))
  replace Blk := Bl1k
  clear Bl1k
  replace hx := hx.keep hk
  replace hy := hy.keep hk
  replace hz := hz.keep hk
  replace hu := hu.keep hk
  clear hW hG hk hbw hsz lk
  have ck_0 : w6.cell? ⟨w.heap.size + 1 + 1, 0, none⟩ = some (.bool false) := Blk.at 0 rfl
  have ck_1 : w6.cell? ⟨w.heap.size + 1 + 1, 1, none⟩ = some (.slice none 0 0) := Blk.at 1 rfl
  have ck_2 : w6.cell? ⟨w.heap.size + 1 + 1, 2, none⟩ = some (.slice none 0 0) := Blk.at 2 rfl
  have ck_3 : w6.cell? ⟨w.heap.size + 1 + 1, 3, none⟩ = some (.bool false) := Blk.at 3 rfl
  have ck_4 : w6.cell? ⟨w.heap.size + 1 + 1, 4, none⟩ = some (.slice none 0 0) := Blk.at 4 rfl
  have ck_5 : w6.cell? ⟨w.heap.size + 1 + 1, 5, none⟩ = some (.slice none 0 0) := Blk.at 5 rfl
  exact bodyPost_ret (v := .tuple #[.agg #[.bool false, .slice none 0 0, .slice none 0 0, .bool false, .slice none 0 0, .slice none 0 0], .int .i64 1]) (by simp [results, Try.results28, go_sem, ck_0, ck_1, ck_2, ck_3, ck_4, ck_5]) rfl ⟨_, _, rfl, (PV2.mk (PV.zero _) (PV.zero _)), rfl, hs⟩

end Go.Proofs.Ytlfnapfnpkhggaa
