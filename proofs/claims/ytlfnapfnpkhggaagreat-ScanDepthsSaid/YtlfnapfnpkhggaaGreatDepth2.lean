/-
  The reference's Depth; both sides' Depth and Plies in all ways at once.
-/
import Derived.Test.YtlfnapfnpkhggaaGreatPkDepth
import Derived.Test.YtlfnapfnpkhggaaGreatRangeS
import Derived.Test.YtlfnapfnpkhggaaGreatPlies
import Derived.Test.YtlfnapfnpkhggaaGreatRef7Plies
set_option linter.unusedSimpArgs false
set_option linter.unusedVariables false
namespace Go.Proofs.YtlfnapfnpkhggaaGreat
open Go.RowKit Dg
set_option maxRecDepth 100000
set_option maxHeartbeats 16000000
attribute [local go_sem ↓] Go.wp_at_zero Go.wp_at_succ

theorem smLo_eq (x y z u : Rat) : mnQ (mnQ (x * z) (x * u)) (mnQ (y * z) (y * u)) = mulLo x y z u := by
  have e : mulLo x y z u = mnL [x * z, x * u, y * z, y * u] 3 := rfl
  have e4 : ∀ a b c d : Rat, mnL [a, b, c, d] 3 = (if d < (if c < (if b < a then b else a) then c else (if b < a then b else a)) then d else (if c < (if b < a then b else a) then c else (if b < a then b else a))) := fun _ _ _ _ => rfl
  rw [e, e4]
  unfold mnQ
  generalize x * z = a
  generalize x * u = b
  generalize y * z = c
  generalize y * u = d
  grind
theorem smHi_eq (x y z u : Rat) : mxQ (mxQ (x * z) (x * u)) (mxQ (y * z) (y * u)) = mulHi x y z u := by
  have e : mulHi x y z u = mxL [x * z, x * u, y * z, y * u] 3 := rfl
  have e4 : ∀ a b c d : Rat, mxL [a, b, c, d] 3 = (if (if (if a < b then b else a) < c then c else (if a < b then b else a)) < d then d else (if (if a < b then b else a) < c then c else (if a < b then b else a))) := fun _ _ _ _ => rfl
  rw [e, e4]
  unfold mxQ
  generalize x * z = a
  generalize x * u = b
  generalize y * z = c
  generalize y * u = d
  grind
theorem r_SMul_ {w : World} {v v' : Value} {x y z u : Rat} (h : RV2 w v x y) (h' : RV2 w v' z u) (sx : SzQ 300000 x) (sy : SzQ 300000 y) (sz : SzQ 300000 z) (su : SzQ 300000 u) : Calls Tryz.prog 112 #[v, v'] w (Ret1 (fun w v => RV2 w v (mulLo x y z u) (mulHi x y z u)) w) := by
  have := r_SMul v x y v' z u w h h' sx sy sz su
  rw [smLo_eq, smHi_eq] at this
  exact this
theorem r7_quotient_half {w : World} {v v' : Value} (h : RV w v 1) (h' : RV w v' 2) : Calls Tryz.prog 80 #[v, v'] w (RetQ w halfQ) := by
  have := r7_quotient _ _ _ _ _ h h' (SzQ.fit szQ_one) (SzQ.fit szQ_two) (by decide +kernel)
  have e : (1 : Rat) / 2 = halfQ := by unfold halfQ; decide +kernel
  rw [e] at this
  exact this

theorem r7_Depth_ok (vxy : Value) (x y : Rat) (vzu : Value) (z u : Rat) (w : World) (hxy : RV2 w vxy x y) (hzu : RV2 w vzu z u) (sx : SzQ 100000 x) (sy : SzQ 100000 y) (sz : SzQ 100000 z) (su : SzQ 100000 u) (hx0 : 0 ≤ x) (hz0 : 0 ≤ z) :
    Calls Tryz.prog 39 #[vxy, vzu] w (Ret2 (fun w v => RV2 w v (mulLo (mulLo x y z u) (mulHi x y z u) halfQ halfQ) (mulHi (mulLo x y z u) (mulHi x y z u) halfQ halfQ)) (fun _ v => v = .int .i64 (0)) w) := by
  obtain ⟨shx, ahx, nhx, chx, Ahx, Nhx, Chx, shy, ahy, nhy, chy, Ahy, Nhy, Chy, rfl, hx, hy⟩ := hxy.shape
  clear hxy
  obtain ⟨shz, ahz, nhz, chz, Ahz, Nhz, Chz, shu, ahu, nhu, chu, Ahu, Nhu, Chu, rfl, hz, hu⟩ := hzu.shape
  clear hzu
  have hs := Below.refl w.heap.size w
  have HX := Lib.hid hx0
  have HY := Lib.hid hz0
  clear hx0 hz0
  go_enter Tryz.func39, Tryz.ntmps39
  go_wp2_with fail
  refine Calls.abs ?_
  intro w1 hW
  have hG : Gr [] w w1 := by rw [hW]; exact (Gr.refl _ _).alloc.alloc.alloc
  have hbw : Below w.heap.size w w1 := hG.below0 hs.size
  have hk : KeepD w w1 := hG.keep True.intro
  have sz_w1 : w.heap.size ≤ w.heap.size := hs.size
  have Bltime : Bx w1 (w.heap.size) 88 #[.bool shx, .slice ahx nhx chx, .slice Ahx Nhx Chx, .bool shy, .slice ahy nhy chy, .slice Ahy Nhy Chy] := by rw [hW]; exact (((Bx.new0 _ _ _).alloc _).alloc _)
  have Blspeed : Bx w1 (w.heap.size + 1) 88 #[.bool shz, .slice ahz nhz chz, .slice Ahz Nhz Chz, .bool shu, .slice ahu nhu chu, .slice Ahu Nhu Chu] := by rw [hW]; exact ((Bx.new0 _ _ _).alloc _)
  have Blk : Bx w1 (w.heap.size + 1 + 1) 88 #[.bool false, .slice none 0 0, .slice none 0 0, .bool false, .slice none 0 0, .slice none 0 0] := by rw [hW]; exact (Bx.new0 _ _ _)
  replace hs := hs.trans hbw
  replace hx := hx.keep hk
  replace hy := hy.keep hk
  replace hz := hz.keep hk
  replace hu := hu.keep hk
  clear hW hG hk hbw
  have hz_w1 : w.heap.size + 1 + 1 < w1.heap.size := Blk.lt
  with_reducible refine (rSign hx).mono ?_
  rintro e w2 ⟨rfl, hb⟩
  replace hs := bStep hs hb
  replace Bltime := Bltime.mono hb
  replace Blspeed := Blspeed.mono hb
  replace Blk := Blk.mono hb
  replace hx := hx.mono hb
  replace hy := hy.mono hb
  replace hz := hz.mono hb
  replace hu := hu.mono hb
  clear hb
  obtain ⟨sg1, Hsg1⟩ : ∃ s : Int, s = sgQ x := ⟨_, rfl⟩
  rw [← Hsg1]
  replace Hsg1 := Lib.hid Hsg1
  have q2 : ¬ (x < 0) := Rat.not_lt.2 HX.out
  have q2_ : ¬ (sg1 < 0) := by have h := s1_lt x; rw [← Hsg1.out] at h; exact fun h1 => q2 (h.1 h1)
  have q2H := Lib.hid q2
  clear q2
  have q2d : decide (sg1 < 0) = false := decide_eq_false q2_
  have cspeed_0 : w2.cell? ⟨w.heap.size + 1, 0, none⟩ = some (.bool shz) := Blspeed.at 0 rfl
  have cspeed_1 : w2.cell? ⟨w.heap.size + 1, 1, none⟩ = some (.slice ahz nhz chz) := Blspeed.at 1 rfl
  have cspeed_2 : w2.cell? ⟨w.heap.size + 1, 2, none⟩ = some (.slice Ahz Nhz Chz) := Blspeed.at 2 rfl
  have cspeed_3 : w2.cell? ⟨w.heap.size + 1, 3, none⟩ = some (.bool shu) := Blspeed.at 3 rfl
  have cspeed_4 : w2.cell? ⟨w.heap.size + 1, 4, none⟩ = some (.slice ahu nhu chu) := Blspeed.at 4 rfl
  have cspeed_5 : w2.cell? ⟨w.heap.size + 1, 5, none⟩ = some (.slice Ahu Nhu Chu) := Blspeed.at 5 rfl
  have Lspeed : w.heap.size + 1 < w2.heap.size := Blspeed.lt
  go_wp2_with fail
  clear cspeed_0 cspeed_1 cspeed_2 cspeed_3 cspeed_4 cspeed_5 Lspeed
  with_reducible refine (rSign hz).mono ?_
  rintro e w3 ⟨rfl, hb⟩
  replace hs := bStep hs hb
  replace Bltime := Bltime.mono hb
  replace Blspeed := Blspeed.mono hb
  replace Blk := Blk.mono hb
  replace hx := hx.mono hb
  replace hy := hy.mono hb
  replace hz := hz.mono hb
  replace hu := hu.mono hb
  clear hb
  obtain ⟨sg3, Hsg3⟩ : ∃ s : Int, s = sgQ z := ⟨_, rfl⟩
  rw [← Hsg3]
  replace Hsg3 := Lib.hid Hsg3
  have q4 : ¬ (z < 0) := Rat.not_lt.2 HY.out
  have q4_ : ¬ (sg3 < 0) := by have h := s1_lt z; rw [← Hsg3.out] at h; exact fun h1 => q4 (h.1 h1)
  have q4H := Lib.hid q4
  clear q4
  have q4d : decide (sg3 < 0) = false := decide_eq_false q4_
  go_wp2_with fail
  with_reducible refine (r7_one _).mono ?_
  rintro e w4 ⟨_, rfl, h5, hb⟩
  obtain ⟨sh5, ah5, nh5, ch5, Ah5, Nh5, Ch5, rfl⟩ := h5.shape
  replace hs := bStep hs hb
  replace Bltime := Bltime.mono hb
  replace Blspeed := Blspeed.mono hb
  replace Blk := Blk.mono hb
  replace hx := hx.mono hb
  replace hy := hy.mono hb
  replace hz := hz.mono hb
  replace hu := hu.mono hb
  clear hb
  go_wp2_with fail
  with_reducible refine (r_Int_calls 2 _ (by omega) (by omega)).mono ?_
  rintro e w5 ⟨_, rfl, h6, hb⟩
  obtain ⟨sh6, ah6, nh6, ch6, Ah6, Nh6, Ch6, rfl⟩ := h6.shape
  replace hs := bStep hs hb
  replace Bltime := Bltime.mono hb
  replace Blspeed := Blspeed.mono hb
  replace Blk := Blk.mono hb
  replace hx := hx.mono hb
  replace hy := hy.mono hb
  replace hz := hz.mono hb
  replace hu := hu.mono hb
  replace h5 := h5.mono hb
  clear hb
  go_wp2_with fail
  with_reducible refine (r7_quotient_half h5 h6).mono ?_
  rintro e w6 ⟨_, rfl, h7, hb⟩
  obtain ⟨sh7, ah7, nh7, ch7, Ah7, Nh7, Ch7, rfl⟩ := h7.shape
  clear h5 h6
  replace hs := bStep hs hb
  replace Bltime := Bltime.mono hb
  replace Blspeed := Blspeed.mono hb
  replace Blk := Blk.mono hb
  replace hx := hx.mono hb
  replace hy := hy.mono hb
  replace hz := hz.mono hb
  replace hu := hu.mono hb
  clear hb
  go_upto_region 4 with fail
  refine Code.abs ?_
  intro w7 hW
  have hG : Gr [] w6 w7 := by rw [hW]; exact (Gr.refl _ _).alloc
  have hbw : Below w.heap.size w6 w7 := hG.below0 hs.size
  have hk : KeepD w6 w7 := hG.keep True.intro
  have sz_w7 : w.heap.size ≤ w6.heap.size := hs.size
  have ntime_w7 : w.heap.size < w6.heap.size := Bltime.lt
  have nspeed_w7 : w.heap.size + 1 < w6.heap.size := Blspeed.lt
  have nk_w7 : w.heap.size + 1 + 1 < w6.heap.size := Blk.lt
  have Blhalf : Bx w7 (w6.heap.size) 45 #[.bool sh7, .slice ah7 nh7 ch7, .slice Ah7 Nh7 Ch7] := by rw [hW]; exact (Bx.new0 _ _ _)
  replace hs := hs.trans hbw
  replace Bltime := hG.bx Bltime notMem0
  replace Blspeed := hG.bx Blspeed notMem0
  replace Blk := hG.bx Blk notMem0
  replace hx := hx.keep hk
  replace hy := hy.keep hk
  replace hz := hz.keep hk
  replace hu := hu.keep hk
  replace h7 := h7.keep hk
  clear hW hG hk hbw
  have hz_w7 : w6.heap.size < w7.heap.size := Blhalf.lt
  refine U_region (S := fun w' => w'.cell? ⟨w.heap.size, 0, none⟩ = some (.bool shx) ∧ w'.cell? ⟨w.heap.size, 1, none⟩ = some (.slice ahx nhx chx) ∧ w'.cell? ⟨w.heap.size, 2, none⟩ = some (.slice Ahx Nhx Chx) ∧ w'.cell? ⟨w.heap.size, 3, none⟩ = some (.bool shy) ∧ w'.cell? ⟨w.heap.size, 4, none⟩ = some (.slice ahy nhy chy) ∧ w'.cell? ⟨w.heap.size, 5, none⟩ = some (.slice Ahy Nhy Chy) ∧ w'.cell? ⟨w.heap.size + 1, 0, none⟩ = some (.bool shz) ∧ w'.cell? ⟨w.heap.size + 1, 1, none⟩ = some (.slice ahz nhz chz) ∧ w'.cell? ⟨w.heap.size + 1, 2, none⟩ = some (.slice Ahz Nhz Chz) ∧ w'.cell? ⟨w.heap.size + 1, 3, none⟩ = some (.bool shu) ∧ w'.cell? ⟨w.heap.size + 1, 4, none⟩ = some (.slice ahu nhu chu) ∧ w'.cell? ⟨w.heap.size + 1, 5, none⟩ = some (.slice Ahu Nhu Chu) ∧ w'.cell? ⟨w6.heap.size, 0, none⟩ = some (.bool sh7) ∧ w'.cell? ⟨w6.heap.size, 1, none⟩ = some (.slice ah7 nh7 ch7) ∧ w'.cell? ⟨w6.heap.size, 2, none⟩ = some (.slice Ah7 Nh7 Ch7)) (by kernel_rfl) 7 ?_
  refine AnyU.abs ?_
  intro w8 hW
  have hb : Below w7.heap.size w7 w8 := by rw [hW]; exact bDrew _
  replace hs := bStep hs hb
  replace Bltime := Bltime.mono hb
  replace Blspeed := Blspeed.mono hb
  replace Blk := Blk.mono hb
  replace Blhalf := Blhalf.mono hb
  replace hx := hx.mono hb
  replace hy := hy.mono hb
  replace hz := hz.mono hb
  replace hu := hu.mono hb
  replace h7 := h7.mono hb
  clear hb hW
  have ctime_0 : w8.cell? ⟨w.heap.size, 0, none⟩ = some (.bool shx) := Bltime.at 0 rfl
  have ctime_1 : w8.cell? ⟨w.heap.size, 1, none⟩ = some (.slice ahx nhx chx) := Bltime.at 1 rfl
  have ctime_2 : w8.cell? ⟨w.heap.size, 2, none⟩ = some (.slice Ahx Nhx Chx) := Bltime.at 2 rfl
  have ctime_3 : w8.cell? ⟨w.heap.size, 3, none⟩ = some (.bool shy) := Bltime.at 3 rfl
  have ctime_4 : w8.cell? ⟨w.heap.size, 4, none⟩ = some (.slice ahy nhy chy) := Bltime.at 4 rfl
  have ctime_5 : w8.cell? ⟨w.heap.size, 5, none⟩ = some (.slice Ahy Nhy Chy) := Bltime.at 5 rfl
  have cspeed_0 : w8.cell? ⟨w.heap.size + 1, 0, none⟩ = some (.bool shz) := Blspeed.at 0 rfl
  have cspeed_1 : w8.cell? ⟨w.heap.size + 1, 1, none⟩ = some (.slice ahz nhz chz) := Blspeed.at 1 rfl
  have cspeed_2 : w8.cell? ⟨w.heap.size + 1, 2, none⟩ = some (.slice Ahz Nhz Chz) := Blspeed.at 2 rfl
  have cspeed_3 : w8.cell? ⟨w.heap.size + 1, 3, none⟩ = some (.bool shu) := Blspeed.at 3 rfl
  have cspeed_4 : w8.cell? ⟨w.heap.size + 1, 4, none⟩ = some (.slice ahu nhu chu) := Blspeed.at 4 rfl
  have cspeed_5 : w8.cell? ⟨w.heap.size + 1, 5, none⟩ = some (.slice Ahu Nhu Chu) := Blspeed.at 5 rfl
  have chalf_0 : w8.cell? ⟨w6.heap.size, 0, none⟩ = some (.bool sh7) := Blhalf.at 0 rfl
  have chalf_1 : w8.cell? ⟨w6.heap.size, 1, none⟩ = some (.slice ah7 nh7 ch7) := Blhalf.at 1 rfl
  have chalf_2 : w8.cell? ⟨w6.heap.size, 2, none⟩ = some (.slice Ah7 Nh7 Ch7) := Blhalf.at 2 rfl
  have hH := (show w8.cell? ⟨w.heap.size, 0, none⟩ = some (.bool shx) ∧ w8.cell? ⟨w.heap.size, 1, none⟩ = some (.slice ahx nhx chx) ∧ w8.cell? ⟨w.heap.size, 2, none⟩ = some (.slice Ahx Nhx Chx) ∧ w8.cell? ⟨w.heap.size, 3, none⟩ = some (.bool shy) ∧ w8.cell? ⟨w.heap.size, 4, none⟩ = some (.slice ahy nhy chy) ∧ w8.cell? ⟨w.heap.size, 5, none⟩ = some (.slice Ahy Nhy Chy) ∧ w8.cell? ⟨w.heap.size + 1, 0, none⟩ = some (.bool shz) ∧ w8.cell? ⟨w.heap.size + 1, 1, none⟩ = some (.slice ahz nhz chz) ∧ w8.cell? ⟨w.heap.size + 1, 2, none⟩ = some (.slice Ahz Nhz Chz) ∧ w8.cell? ⟨w.heap.size + 1, 3, none⟩ = some (.bool shu) ∧ w8.cell? ⟨w.heap.size + 1, 4, none⟩ = some (.slice ahu nhu chu) ∧ w8.cell? ⟨w.heap.size + 1, 5, none⟩ = some (.slice Ahu Nhu Chu) ∧ w8.cell? ⟨w6.heap.size, 0, none⟩ = some (.bool sh7) ∧ w8.cell? ⟨w6.heap.size, 1, none⟩ = some (.slice ah7 nh7 ch7) ∧ w8.cell? ⟨w6.heap.size, 2, none⟩ = some (.slice Ah7 Nh7 Ch7) from ⟨ctime_0, ctime_1, ctime_2, ctime_3, ctime_4, ctime_5, cspeed_0, cspeed_1, cspeed_2, cspeed_3, cspeed_4, cspeed_5, chalf_0, chalf_1, chalf_2⟩)
  refine U_take (i := 0) (v := ?_) rfl (by kernel_rfl) (by kernel_rfl) (by kernel_rfl) (by kernel_rfl) (fun _ _ _ h => h) (Or.inl ⟨by rfl, ?_⟩) hH ?_
  rotate_left
  · intro w hSw
    try dsimp only at hSw
    go_simp
    try with_reducible rfl
  try simp only [Act.put, List.setIfInBounds_toArray, List.set_cons_zero, List.set_cons_succ]
  refine U_take (i := 1) (v := ?_) rfl (by kernel_rfl) (by kernel_rfl) (by kernel_rfl) (by kernel_rfl) (fun _ _ _ h => h) (Or.inl ⟨by rfl, ?_⟩) hH ?_
  rotate_left
  · intro w hSw
    try dsimp only at hSw
    go_simp
    try with_reducible rfl
  try simp only [Act.put, List.setIfInBounds_toArray, List.set_cons_zero, List.set_cons_succ]
  refine U_take (i := 3) (v := ?_) rfl (by kernel_rfl) (by kernel_rfl) (by kernel_rfl) (by kernel_rfl) (fun _ _ _ h => h) (Or.inl ⟨by rfl, ?_⟩) hH ?_
  rotate_left
  · intro w hSw
    try dsimp only at hSw
    go_simp
    try with_reducible rfl
  try simp only [Act.put, List.setIfInBounds_toArray, List.set_cons_zero, List.set_cons_succ]
  clear hH
  refine U_one (i := 2) (by kernel_rfl) rfl (fun K hK => ?_)
  go_simp
  (with_reducible refine (r_SMul_ (RV2.mk hx hy) (RV2.mk hz hu) (SzQ.mono sx (by omega)) (SzQ.mono sy (by omega)) (SzQ.mono sz (by omega)) (SzQ.mono su (by omega))).mono ?_)
  rintro e w9 ⟨_, rfl, h8, hb⟩
  obtain ⟨sh8a, ah8a, nh8a, ch8a, Ah8a, Nh8a, Ch8a, sh8b, ah8b, nh8b, ch8b, Ah8b, Nh8b, Ch8b, rfl, h8a, h8b⟩ := h8.shape
  replace hs := bStep hs hb
  replace Bltime := Bltime.mono hb
  replace Blspeed := Blspeed.mono hb
  replace Blk := Blk.mono hb
  replace Blhalf := Blhalf.mono hb
  replace hx := hx.mono hb
  replace hy := hy.mono hb
  replace hz := hz.mono hb
  replace hu := hu.mono hb
  replace h7 := h7.mono hb
  replace ctime_0 := cellK ctime_0 hb
  replace ctime_1 := cellK ctime_1 hb
  replace ctime_2 := cellK ctime_2 hb
  replace ctime_3 := cellK ctime_3 hb
  replace ctime_4 := cellK ctime_4 hb
  replace ctime_5 := cellK ctime_5 hb
  replace cspeed_0 := cellK cspeed_0 hb
  replace cspeed_1 := cellK cspeed_1 hb
  replace cspeed_2 := cellK cspeed_2 hb
  replace cspeed_3 := cellK cspeed_3 hb
  replace cspeed_4 := cellK cspeed_4 hb
  replace cspeed_5 := cellK cspeed_5 hb
  replace chalf_0 := cellK chalf_0 hb
  replace chalf_1 := cellK chalf_1 hb
  replace chalf_2 := cellK chalf_2 hb
  clear hb
  try go_wp2_with fail
  refine hK.out _ _ ⟨ctime_0, ctime_1, ctime_2, ctime_3, ctime_4, ctime_5, cspeed_0, cspeed_1, cspeed_2, cspeed_3, cspeed_4, cspeed_5, chalf_0, chalf_1, chalf_2⟩ (fun hH => ?_)
  clear hK K
  try simp only [Act.put, List.setIfInBounds_toArray, List.set_cons_zero, List.set_cons_succ]
  clear hH
  refine U_one (i := 4) (by kernel_rfl) rfl (fun K hK => ?_)
  go_simp
  (with_reducible refine (r_Only _ _ _ h7).mono ?_)
  rintro e w10 ⟨_, rfl, h9, hb⟩
  obtain ⟨sh9a, ah9a, nh9a, ch9a, Ah9a, Nh9a, Ch9a, sh9b, ah9b, nh9b, ch9b, Ah9b, Nh9b, Ch9b, rfl, h9a, h9b⟩ := h9.shape
  replace hs := bStep hs hb
  replace Bltime := Bltime.mono hb
  replace Blspeed := Blspeed.mono hb
  replace Blk := Blk.mono hb
  replace Blhalf := Blhalf.mono hb
  replace hx := hx.mono hb
  replace hy := hy.mono hb
  replace hz := hz.mono hb
  replace hu := hu.mono hb
  replace h7 := h7.mono hb
  replace h8a := h8a.mono hb
  replace h8b := h8b.mono hb
  replace ctime_0 := cellK ctime_0 hb
  replace ctime_1 := cellK ctime_1 hb
  replace ctime_2 := cellK ctime_2 hb
  replace ctime_3 := cellK ctime_3 hb
  replace ctime_4 := cellK ctime_4 hb
  replace ctime_5 := cellK ctime_5 hb
  replace cspeed_0 := cellK cspeed_0 hb
  replace cspeed_1 := cellK cspeed_1 hb
  replace cspeed_2 := cellK cspeed_2 hb
  replace cspeed_3 := cellK cspeed_3 hb
  replace cspeed_4 := cellK cspeed_4 hb
  replace cspeed_5 := cellK cspeed_5 hb
  replace chalf_0 := cellK chalf_0 hb
  replace chalf_1 := cellK chalf_1 hb
  replace chalf_2 := cellK chalf_2 hb
  clear hb
  try go_wp2_with fail
  refine hK.out _ _ ⟨ctime_0, ctime_1, ctime_2, ctime_3, ctime_4, ctime_5, cspeed_0, cspeed_1, cspeed_2, cspeed_3, cspeed_4, cspeed_5, chalf_0, chalf_1, chalf_2⟩ (fun hH => ?_)
  clear hK K
  try simp only [Act.put, List.setIfInBounds_toArray, List.set_cons_zero, List.set_cons_succ]
  clear hH
  refine U_one (i := 5) (by kernel_rfl) rfl (fun K hK => ?_)
  go_simp
  (with_reducible refine (r_SMul_ (RV2.mk h8a h8b) (RV2.mk h9a h9b) (SzQ.mono (mul_sz sx sy sz su).1 (by omega)) (SzQ.mono (mul_sz sx sy sz su).2 (by omega)) (SzQ.mono szQ_half (by omega)) (SzQ.mono szQ_half (by omega))).mono ?_)
  rintro e w11 ⟨_, rfl, h10, hb⟩
  obtain ⟨sh10a, ah10a, nh10a, ch10a, Ah10a, Nh10a, Ch10a, sh10b, ah10b, nh10b, ch10b, Ah10b, Nh10b, Ch10b, rfl, h10a, h10b⟩ := h10.shape
  replace hs := bStep hs hb
  replace Bltime := Bltime.mono hb
  replace Blspeed := Blspeed.mono hb
  replace Blk := Blk.mono hb
  replace Blhalf := Blhalf.mono hb
  replace hx := hx.mono hb
  replace hy := hy.mono hb
  replace hz := hz.mono hb
  replace hu := hu.mono hb
  replace h7 := h7.mono hb
  replace h8a := h8a.mono hb
  replace h8b := h8b.mono hb
  replace h9a := h9a.mono hb
  replace h9b := h9b.mono hb
  replace ctime_0 := cellK ctime_0 hb
  replace ctime_1 := cellK ctime_1 hb
  replace ctime_2 := cellK ctime_2 hb
  replace ctime_3 := cellK ctime_3 hb
  replace ctime_4 := cellK ctime_4 hb
  replace ctime_5 := cellK ctime_5 hb
  replace cspeed_0 := cellK cspeed_0 hb
  replace cspeed_1 := cellK cspeed_1 hb
  replace cspeed_2 := cellK cspeed_2 hb
  replace cspeed_3 := cellK cspeed_3 hb
  replace cspeed_4 := cellK cspeed_4 hb
  replace cspeed_5 := cellK cspeed_5 hb
  replace chalf_0 := cellK chalf_0 hb
  replace chalf_1 := cellK chalf_1 hb
  replace chalf_2 := cellK chalf_2 hb
  clear hb
  try go_wp2_with fail
  refine hK.out _ _ ⟨ctime_0, ctime_1, ctime_2, ctime_3, ctime_4, ctime_5, cspeed_0, cspeed_1, cspeed_2, cspeed_3, cspeed_4, cspeed_5, chalf_0, chalf_1, chalf_2⟩ (fun hH => ?_)
  clear hK K
  try simp only [Act.put, List.setIfInBounds_toArray, List.set_cons_zero, List.set_cons_succ]
  clear hH
  have ck_0 : w11.cell? ⟨w.heap.size + 1 + 1, 0, none⟩ = some (.bool false) := Blk.at 0 rfl
  have ck_1 : w11.cell? ⟨w.heap.size + 1 + 1, 1, none⟩ = some (.slice none 0 0) := Blk.at 1 rfl
  have ck_2 : w11.cell? ⟨w.heap.size + 1 + 1, 2, none⟩ = some (.slice none 0 0) := Blk.at 2 rfl
  have ck_3 : w11.cell? ⟨w.heap.size + 1 + 1, 3, none⟩ = some (.bool false) := Blk.at 3 rfl
  have ck_4 : w11.cell? ⟨w.heap.size + 1 + 1, 4, none⟩ = some (.slice none 0 0) := Blk.at 4 rfl
  have ck_5 : w11.cell? ⟨w.heap.size + 1 + 1, 5, none⟩ = some (.slice none 0 0) := Blk.at 5 rfl
  have fk := Blk.free
  have Lk : w.heap.size + 1 + 1 < w11.heap.size := Blk.lt
  refine U_one (i := 6) (by kernel_rfl) rfl (fun K hK => ?_)
  go_simp
  generalize hW_ : ((((((w11.setCell ⟨w.heap.size + 1 + 1, 0, none⟩ (.bool sh10a)).setCell ⟨w.heap.size + 1 + 1, 1, none⟩ (.slice ah10a nh10a ch10a)).setCell ⟨w.heap.size + 1 + 1, 2, none⟩ (.slice Ah10a Nh10a Ch10a)).setCell ⟨w.heap.size + 1 + 1, 3, none⟩ (.bool sh10b)).setCell ⟨w.heap.size + 1 + 1, 4, none⟩ (.slice ah10b nh10b ch10b)).setCell ⟨w.heap.size + 1 + 1, 5, none⟩ (.slice Ah10b Nh10b Ch10b)) = w12
  have hW := hW_.symm
  clear hW_
  have hG : Gr [w.heap.size + 1 + 1] w11 w12 := by rw [hW]; exact (Gr.refl _ _).set.set.set.set.set.set
  have hsz := hs.size
  have lk := Blk.lt
  have hbw : Below w.heap.size w11 w12 := hG.below1 hs.size (by first | omega | assumption)
  have hk : KeepD w11 w12 := hG.keep ⟨⟨_, Blk.ty, by decide⟩, True.intro⟩
  have Bl1k : Bx w12 (w.heap.size + 1 + 1) 88 #[.bool sh10a, .slice ah10a nh10a ch10a, .slice Ah10a Nh10a Ch10a, .bool sh10b, .slice ah10b nh10b ch10b, .slice Ah10b Nh10b Ch10b] := by rw [hW]; exact Blk.set6
  replace hs := hs.trans hbw
  replace Bltime := hG.bx Bltime (notMem1 (by omega))
  replace Blspeed := hG.bx Blspeed (notMem1 (by omega))
  replace Blhalf := hG.bx Blhalf (notMem1 (by omega))
  replace Blk := Bl1k
  clear Bl1k
  replace hx := hx.keep hk
  replace hy := hy.keep hk
  replace hz := hz.keep hk
  replace hu := hu.keep hk
  replace h7 := h7.keep hk
  replace h8a := h8a.keep hk
  replace h8b := h8b.keep hk
  replace h9a := h9a.keep hk
  replace h9b := h9b.keep hk
  replace h10a := h10a.keep hk
  replace h10b := h10b.keep hk
  replace ctime_0 := hG.cell ctime_0 (notMem1 (by dsimp only; omega))
  replace ctime_1 := hG.cell ctime_1 (notMem1 (by dsimp only; omega))
  replace ctime_2 := hG.cell ctime_2 (notMem1 (by dsimp only; omega))
  replace ctime_3 := hG.cell ctime_3 (notMem1 (by dsimp only; omega))
  replace ctime_4 := hG.cell ctime_4 (notMem1 (by dsimp only; omega))
  replace ctime_5 := hG.cell ctime_5 (notMem1 (by dsimp only; omega))
  replace cspeed_0 := hG.cell cspeed_0 (notMem1 (by dsimp only; omega))
  replace cspeed_1 := hG.cell cspeed_1 (notMem1 (by dsimp only; omega))
  replace cspeed_2 := hG.cell cspeed_2 (notMem1 (by dsimp only; omega))
  replace cspeed_3 := hG.cell cspeed_3 (notMem1 (by dsimp only; omega))
  replace cspeed_4 := hG.cell cspeed_4 (notMem1 (by dsimp only; omega))
  replace cspeed_5 := hG.cell cspeed_5 (notMem1 (by dsimp only; omega))
  replace chalf_0 := hG.cell chalf_0 (notMem1 (by dsimp only; omega))
  replace chalf_1 := hG.cell chalf_1 (notMem1 (by dsimp only; omega))
  replace chalf_2 := hG.cell chalf_2 (notMem1 (by dsimp only; omega))
  clear hW hG hk hbw hsz lk
  refine hK.out _ _ ⟨ctime_0, ctime_1, ctime_2, ctime_3, ctime_4, ctime_5, cspeed_0, cspeed_1, cspeed_2, cspeed_3, cspeed_4, cspeed_5, chalf_0, chalf_1, chalf_2⟩ (fun hH => ?_)
  clear hK K
  try simp only [Act.put, List.setIfInBounds_toArray, List.set_cons_zero, List.set_cons_succ]
  clear hH
  refine U_last (by kernel_rfl) rfl (by kernel_rfl) (fun K hK => ?_)
  go_simp
  refine hK.out _ _ ?_
  clear hK K
  intro wl hW
  rw [hW]
  clear hW wl
  try simp only [Act.put, List.setIfInBounds_toArray, List.set_cons_zero, List.set_cons_succ]
  clear ctime_0 ctime_1 ctime_2 ctime_3 ctime_4 ctime_5 cspeed_0 cspeed_1 cspeed_2 cspeed_3 cspeed_4 cspeed_5 chalf_0 chalf_1 chalf_2
  go_wp2
  have ck_0 : w12.cell? ⟨w.heap.size + 1 + 1, 0, none⟩ = some (.bool sh10a) := Blk.at 0 rfl
  have ck_1 : w12.cell? ⟨w.heap.size + 1 + 1, 1, none⟩ = some (.slice ah10a nh10a ch10a) := Blk.at 1 rfl
  have ck_2 : w12.cell? ⟨w.heap.size + 1 + 1, 2, none⟩ = some (.slice Ah10a Nh10a Ch10a) := Blk.at 2 rfl
  have ck_3 : w12.cell? ⟨w.heap.size + 1 + 1, 3, none⟩ = some (.bool sh10b) := Blk.at 3 rfl
  have ck_4 : w12.cell? ⟨w.heap.size + 1 + 1, 4, none⟩ = some (.slice ah10b nh10b ch10b) := Blk.at 4 rfl
  have ck_5 : w12.cell? ⟨w.heap.size + 1 + 1, 5, none⟩ = some (.slice Ah10b Nh10b Ch10b) := Blk.at 5 rfl
  exact bodyPost_ret (v := .tuple #[.agg #[.bool sh10a, .slice ah10a nh10a ch10a, .slice Ah10a Nh10a Ch10a, .bool sh10b, .slice ah10b nh10b ch10b, .slice Ah10b Nh10b Ch10b], .int .i64 0]) (by simp [results, Tryz.results39, go_sem, ck_0, ck_1, ck_2, ck_3, ck_4, ck_5]) rfl ⟨_, _, rfl, (RV2.mk h10a h10b), rfl, hs⟩

theorem r7_Depth_bad1 (vxy : Value) (x y : Rat) (vzu : Value) (z u : Rat) (w : World) (hxy : RV2 w vxy x y) (hzu : RV2 w vzu z u) (hx0 : x < 0) :
    Calls Tryz.prog 39 #[vxy, vzu] w (Ret2 (fun w v => RV2 w v (0) (0)) (fun _ v => v = .int .i64 (1)) w) := by
  obtain ⟨shx, ahx, nhx, chx, Ahx, Nhx, Chx, shy, ahy, nhy, chy, Ahy, Nhy, Chy, rfl, hx, hy⟩ := hxy.shape
  clear hxy
  obtain ⟨shz, ahz, nhz, chz, Ahz, Nhz, Chz, shu, ahu, nhu, chu, Ahu, Nhu, Chu, rfl, hz, hu⟩ := hzu.shape
  clear hzu
  have hs := Below.refl w.heap.size w
  have HX := Lib.hid hx0
  clear hx0
  go_enter Tryz.func39, Tryz.ntmps39
  go_wp2_with fail
  refine Calls.abs ?_
  intro w1 hW
  have hG : Gr [] w w1 := by rw [hW]; exact (Gr.refl _ _).alloc.alloc.alloc
  have hbw : Below w.heap.size w w1 := hG.below0 hs.size
  have hk : KeepD w w1 := hG.keep True.intro
  have sz_w1 : w.heap.size ≤ w.heap.size := hs.size
  have Bltime : Bx w1 (w.heap.size) 88 #[.bool shx, .slice ahx nhx chx, .slice Ahx Nhx Chx, .bool shy, .slice ahy nhy chy, .slice Ahy Nhy Chy] := by rw [hW]; exact (((Bx.new0 _ _ _).alloc _).alloc _)
  have Blspeed : Bx w1 (w.heap.size + 1) 88 #[.bool shz, .slice ahz nhz chz, .slice Ahz Nhz Chz, .bool shu, .slice ahu nhu chu, .slice Ahu Nhu Chu] := by rw [hW]; exact ((Bx.new0 _ _ _).alloc _)
  have Blk : Bx w1 (w.heap.size + 1 + 1) 88 #[.bool false, .slice none 0 0, .slice none 0 0, .bool false, .slice none 0 0, .slice none 0 0] := by rw [hW]; exact (Bx.new0 _ _ _)
  replace hs := hs.trans hbw
  replace hx := hx.keep hk
  replace hy := hy.keep hk
  replace hz := hz.keep hk
  replace hu := hu.keep hk
  clear hW hG hk hbw
  have hz_w1 : w.heap.size + 1 + 1 < w1.heap.size := Blk.lt
  with_reducible refine (rSign hx).mono ?_
  rintro e w2 ⟨rfl, hb⟩
  replace hs := bStep hs hb
  replace Bltime := Bltime.mono hb
  replace Blspeed := Blspeed.mono hb
  replace Blk := Blk.mono hb
  replace hx := hx.mono hb
  replace hy := hy.mono hb
  replace hz := hz.mono hb
  replace hu := hu.mono hb
  clear hb
  obtain ⟨sg1, Hsg1⟩ : ∃ s : Int, s = sgQ x := ⟨_, rfl⟩
  rw [← Hsg1]
  replace Hsg1 := Lib.hid Hsg1
  have q2 : x < 0 := HX.out
  have q2_ : sg1 < 0 := by have h := s1_lt x; rw [← Hsg1.out] at h; exact h.2 q2
  have q2H := Lib.hid q2
  clear q2
  have q2d : decide (sg1 < 0) = true := decide_eq_true q2_
  go_wp2_with fail
  with_reducible refine (r7_zero _).mono ?_
  rintro e w3 ⟨_, rfl, h3, hb⟩
  obtain ⟨sh3, ah3, nh3, ch3, Ah3, Nh3, Ch3, rfl⟩ := h3.shape
  replace hs := bStep hs hb
  replace Bltime := Bltime.mono hb
  replace Blspeed := Blspeed.mono hb
  replace Blk := Blk.mono hb
  replace hx := hx.mono hb
  replace hy := hy.mono hb
  replace hz := hz.mono hb
  replace hu := hu.mono hb
  clear hb
  go_wp2_with fail
  with_reducible refine (r_Only _ _ _ h3).mono ?_
  rintro e w4 ⟨_, rfl, h4, hb⟩
  obtain ⟨sh4a, ah4a, nh4a, ch4a, Ah4a, Nh4a, Ch4a, sh4b, ah4b, nh4b, ch4b, Ah4b, Nh4b, Ch4b, rfl, h4a, h4b⟩ := h4.shape
  clear h3
  replace hs := bStep hs hb
  replace Bltime := Bltime.mono hb
  replace Blspeed := Blspeed.mono hb
  replace Blk := Blk.mono hb
  replace hx := hx.mono hb
  replace hy := hy.mono hb
  replace hz := hz.mono hb
  replace hu := hu.mono hb
  clear hb
  have ck_0 : w4.cell? ⟨w.heap.size + 1 + 1, 0, none⟩ = some (.bool false) := Blk.at 0 rfl
  have ck_1 : w4.cell? ⟨w.heap.size + 1 + 1, 1, none⟩ = some (.slice none 0 0) := Blk.at 1 rfl
  have ck_2 : w4.cell? ⟨w.heap.size + 1 + 1, 2, none⟩ = some (.slice none 0 0) := Blk.at 2 rfl
  have ck_3 : w4.cell? ⟨w.heap.size + 1 + 1, 3, none⟩ = some (.bool false) := Blk.at 3 rfl
  have ck_4 : w4.cell? ⟨w.heap.size + 1 + 1, 4, none⟩ = some (.slice none 0 0) := Blk.at 4 rfl
  have ck_5 : w4.cell? ⟨w.heap.size + 1 + 1, 5, none⟩ = some (.slice none 0 0) := Blk.at 5 rfl
  have fk := Blk.free
  have Lk : w.heap.size + 1 + 1 < w4.heap.size := Blk.lt
  go_wp2
  clear ck_0 ck_1 ck_2 ck_3 ck_4 ck_5 fk Lk
  refine bodyPost.abs ?_
  intro w5 hW
  have hG : Gr [w.heap.size + 1 + 1] w4 w5 := by rw [hW]; exact (Gr.refl _ _).set.set.set.set.set.set
  have hsz := hs.size
  have lk := Blk.lt
  have hbw : Below w.heap.size w4 w5 := hG.below1 hs.size (by first | omega | assumption)
  have hk : KeepD w4 w5 := hG.keep ⟨⟨_, Blk.ty, by decide⟩, True.intro⟩
  have Bl1k : Bx w5 (w.heap.size + 1 + 1) 88 #[.bool sh4a, .slice ah4a nh4a ch4a, .slice Ah4a Nh4a Ch4a, .bool sh4b, .slice ah4b nh4b ch4b, .slice Ah4b Nh4b Ch4b] := by rw [hW]; exact Blk.set6
  replace hs := hs.trans hbw
  replace Bltime := hG.bx Bltime (notMem1 (by omega))
  replace Blspeed := hG.bx Blspeed (notMem1 (by omega))
  replace Blk := Bl1k
  clear Bl1k
  replace hx := hx.keep hk
  replace hy := hy.keep hk
  replace hz := hz.keep hk
  replace hu := hu.keep hk
  replace h4a := h4a.keep hk
  replace h4b := h4b.keep hk
  clear hW hG hk hbw hsz lk
  have ck_0 : w5.cell? ⟨w.heap.size + 1 + 1, 0, none⟩ = some (.bool sh4a) := Blk.at 0 rfl
  have ck_1 : w5.cell? ⟨w.heap.size + 1 + 1, 1, none⟩ = some (.slice ah4a nh4a ch4a) := Blk.at 1 rfl
  have ck_2 : w5.cell? ⟨w.heap.size + 1 + 1, 2, none⟩ = some (.slice Ah4a Nh4a Ch4a) := Blk.at 2 rfl
  have ck_3 : w5.cell? ⟨w.heap.size + 1 + 1, 3, none⟩ = some (.bool sh4b) := Blk.at 3 rfl
  have ck_4 : w5.cell? ⟨w.heap.size + 1 + 1, 4, none⟩ = some (.slice ah4b nh4b ch4b) := Blk.at 4 rfl
  have ck_5 : w5.cell? ⟨w.heap.size + 1 + 1, 5, none⟩ = some (.slice Ah4b Nh4b Ch4b) := Blk.at 5 rfl
  exact bodyPost_ret (v := .tuple #[.agg #[.bool sh4a, .slice ah4a nh4a ch4a, .slice Ah4a Nh4a Ch4a, .bool sh4b, .slice ah4b nh4b ch4b, .slice Ah4b Nh4b Ch4b], .int .i64 1]) (by simp [results, Tryz.results39, go_sem, ck_0, ck_1, ck_2, ck_3, ck_4, ck_5]) rfl ⟨_, _, rfl, (RV2.mk h4a h4b), rfl, hs⟩

theorem r7_Depth_bad2 (vxy : Value) (x y : Rat) (vzu : Value) (z u : Rat) (w : World) (hxy : RV2 w vxy x y) (hzu : RV2 w vzu z u) (hx0 : 0 ≤ x) (hz0 : z < 0) :
    Calls Tryz.prog 39 #[vxy, vzu] w (Ret2 (fun w v => RV2 w v (0) (0)) (fun _ v => v = .int .i64 (1)) w) := by
  obtain ⟨shx, ahx, nhx, chx, Ahx, Nhx, Chx, shy, ahy, nhy, chy, Ahy, Nhy, Chy, rfl, hx, hy⟩ := hxy.shape
  clear hxy
  obtain ⟨shz, ahz, nhz, chz, Ahz, Nhz, Chz, shu, ahu, nhu, chu, Ahu, Nhu, Chu, rfl, hz, hu⟩ := hzu.shape
  clear hzu
  have hs := Below.refl w.heap.size w
  have HX := Lib.hid hx0
  have HY := Lib.hid hz0
  clear hx0 hz0
  go_enter Tryz.func39, Tryz.ntmps39
  go_wp2_with fail
  refine Calls.abs ?_
  intro w1 hW
  have hG : Gr [] w w1 := by rw [hW]; exact (Gr.refl _ _).alloc.alloc.alloc
  have hbw : Below w.heap.size w w1 := hG.below0 hs.size
  have hk : KeepD w w1 := hG.keep True.intro
  have sz_w1 : w.heap.size ≤ w.heap.size := hs.size
  have Bltime : Bx w1 (w.heap.size) 88 #[.bool shx, .slice ahx nhx chx, .slice Ahx Nhx Chx, .bool shy, .slice ahy nhy chy, .slice Ahy Nhy Chy] := by rw [hW]; exact (((Bx.new0 _ _ _).alloc _).alloc _)
  have Blspeed : Bx w1 (w.heap.size + 1) 88 #[.bool shz, .slice ahz nhz chz, .slice Ahz Nhz Chz, .bool shu, .slice ahu nhu chu, .slice Ahu Nhu Chu] := by rw [hW]; exact ((Bx.new0 _ _ _).alloc _)
  have Blk : Bx w1 (w.heap.size + 1 + 1) 88 #[.bool false, .slice none 0 0, .slice none 0 0, .bool false, .slice none 0 0, .slice none 0 0] := by rw [hW]; exact (Bx.new0 _ _ _)
  replace hs := hs.trans hbw
  replace hx := hx.keep hk
  replace hy := hy.keep hk
  replace hz := hz.keep hk
  replace hu := hu.keep hk
  clear hW hG hk hbw
  have hz_w1 : w.heap.size + 1 + 1 < w1.heap.size := Blk.lt
  with_reducible refine (rSign hx).mono ?_
  rintro e w2 ⟨rfl, hb⟩
  replace hs := bStep hs hb
  replace Bltime := Bltime.mono hb
  replace Blspeed := Blspeed.mono hb
  replace Blk := Blk.mono hb
  replace hx := hx.mono hb
  replace hy := hy.mono hb
  replace hz := hz.mono hb
  replace hu := hu.mono hb
  clear hb
  obtain ⟨sg1, Hsg1⟩ : ∃ s : Int, s = sgQ x := ⟨_, rfl⟩
  rw [← Hsg1]
  replace Hsg1 := Lib.hid Hsg1
  have q2 : ¬ (x < 0) := Rat.not_lt.2 HX.out
  have q2_ : ¬ (sg1 < 0) := by have h := s1_lt x; rw [← Hsg1.out] at h; exact fun h1 => q2 (h.1 h1)
  have q2H := Lib.hid q2
  clear q2
  have q2d : decide (sg1 < 0) = false := decide_eq_false q2_
  have cspeed_0 : w2.cell? ⟨w.heap.size + 1, 0, none⟩ = some (.bool shz) := Blspeed.at 0 rfl
  have cspeed_1 : w2.cell? ⟨w.heap.size + 1, 1, none⟩ = some (.slice ahz nhz chz) := Blspeed.at 1 rfl
  have cspeed_2 : w2.cell? ⟨w.heap.size + 1, 2, none⟩ = some (.slice Ahz Nhz Chz) := Blspeed.at 2 rfl
  have cspeed_3 : w2.cell? ⟨w.heap.size + 1, 3, none⟩ = some (.bool shu) := Blspeed.at 3 rfl
  have cspeed_4 : w2.cell? ⟨w.heap.size + 1, 4, none⟩ = some (.slice ahu nhu chu) := Blspeed.at 4 rfl
  have cspeed_5 : w2.cell? ⟨w.heap.size + 1, 5, none⟩ = some (.slice Ahu Nhu Chu) := Blspeed.at 5 rfl
  have Lspeed : w.heap.size + 1 < w2.heap.size := Blspeed.lt
  go_wp2_with fail
  clear cspeed_0 cspeed_1 cspeed_2 cspeed_3 cspeed_4 cspeed_5 Lspeed
  with_reducible refine (rSign hz).mono ?_
  rintro e w3 ⟨rfl, hb⟩
  replace hs := bStep hs hb
  replace Bltime := Bltime.mono hb
  replace Blspeed := Blspeed.mono hb
  replace Blk := Blk.mono hb
  replace hx := hx.mono hb
  replace hy := hy.mono hb
  replace hz := hz.mono hb
  replace hu := hu.mono hb
  clear hb
  obtain ⟨sg3, Hsg3⟩ : ∃ s : Int, s = sgQ z := ⟨_, rfl⟩
  rw [← Hsg3]
  replace Hsg3 := Lib.hid Hsg3
  have q4 : z < 0 := HY.out
  have q4_ : sg3 < 0 := by have h := s1_lt z; rw [← Hsg3.out] at h; exact h.2 q4
  have q4H := Lib.hid q4
  clear q4
  have q4d : decide (sg3 < 0) = true := decide_eq_true q4_
  go_wp2_with fail
  with_reducible refine (r7_zero _).mono ?_
  rintro e w4 ⟨_, rfl, h5, hb⟩
  obtain ⟨sh5, ah5, nh5, ch5, Ah5, Nh5, Ch5, rfl⟩ := h5.shape
  replace hs := bStep hs hb
  replace Bltime := Bltime.mono hb
  replace Blspeed := Blspeed.mono hb
  replace Blk := Blk.mono hb
  replace hx := hx.mono hb
  replace hy := hy.mono hb
  replace hz := hz.mono hb
  replace hu := hu.mono hb
  clear hb
  go_wp2_with fail
  with_reducible refine (r_Only _ _ _ h5).mono ?_
  rintro e w5 ⟨_, rfl, h6, hb⟩
  obtain ⟨sh6a, ah6a, nh6a, ch6a, Ah6a, Nh6a, Ch6a, sh6b, ah6b, nh6b, ch6b, Ah6b, Nh6b, Ch6b, rfl, h6a, h6b⟩ := h6.shape
  clear h5
  replace hs := bStep hs hb
  replace Bltime := Bltime.mono hb
  replace Blspeed := Blspeed.mono hb
  replace Blk := Blk.mono hb
  replace hx := hx.mono hb
  replace hy := hy.mono hb
  replace hz := hz.mono hb
  replace hu := hu.mono hb
  clear hb
  have ck_0 : w5.cell? ⟨w.heap.size + 1 + 1, 0, none⟩ = some (.bool false) := Blk.at 0 rfl
  have ck_1 : w5.cell? ⟨w.heap.size + 1 + 1, 1, none⟩ = some (.slice none 0 0) := Blk.at 1 rfl
  have ck_2 : w5.cell? ⟨w.heap.size + 1 + 1, 2, none⟩ = some (.slice none 0 0) := Blk.at 2 rfl
  have ck_3 : w5.cell? ⟨w.heap.size + 1 + 1, 3, none⟩ = some (.bool false) := Blk.at 3 rfl
  have ck_4 : w5.cell? ⟨w.heap.size + 1 + 1, 4, none⟩ = some (.slice none 0 0) := Blk.at 4 rfl
  have ck_5 : w5.cell? ⟨w.heap.size + 1 + 1, 5, none⟩ = some (.slice none 0 0) := Blk.at 5 rfl
  have fk := Blk.free
  have Lk : w.heap.size + 1 + 1 < w5.heap.size := Blk.lt
  go_wp2
  clear ck_0 ck_1 ck_2 ck_3 ck_4 ck_5 fk Lk
  refine bodyPost.abs ?_
  intro w6 hW
  have hG : Gr [w.heap.size + 1 + 1] w5 w6 := by rw [hW]; exact (Gr.refl _ _).set.set.set.set.set.set
  have hsz := hs.size
  have lk := Blk.lt
  have hbw : Below w.heap.size w5 w6 := hG.below1 hs.size (by first | omega | assumption)
  have hk : KeepD w5 w6 := hG.keep ⟨⟨_, Blk.ty, by decide⟩, True.intro⟩
  have Bl1k : Bx w6 (w.heap.size + 1 + 1) 88 #[.bool sh6a, .slice ah6a nh6a ch6a, .slice Ah6a Nh6a Ch6a, .bool sh6b, .slice ah6b nh6b ch6b, .slice Ah6b Nh6b Ch6b] := by rw [hW]; exact Blk.set6
  replace hs := hs.trans hbw
  replace Bltime := hG.bx Bltime (notMem1 (by omega))
  replace Blspeed := hG.bx Blspeed (notMem1 (by omega))
  replace Blk := Bl1k
  clear Bl1k
  replace hx := hx.keep hk
  replace hy := hy.keep hk
  replace hz := hz.keep hk
  replace hu := hu.keep hk
  replace h6a := h6a.keep hk
  replace h6b := h6b.keep hk
  clear hW hG hk hbw hsz lk
  have ck_0 : w6.cell? ⟨w.heap.size + 1 + 1, 0, none⟩ = some (.bool sh6a) := Blk.at 0 rfl
  have ck_1 : w6.cell? ⟨w.heap.size + 1 + 1, 1, none⟩ = some (.slice ah6a nh6a ch6a) := Blk.at 1 rfl
  have ck_2 : w6.cell? ⟨w.heap.size + 1 + 1, 2, none⟩ = some (.slice Ah6a Nh6a Ch6a) := Blk.at 2 rfl
  have ck_3 : w6.cell? ⟨w.heap.size + 1 + 1, 3, none⟩ = some (.bool sh6b) := Blk.at 3 rfl
  have ck_4 : w6.cell? ⟨w.heap.size + 1 + 1, 4, none⟩ = some (.slice ah6b nh6b ch6b) := Blk.at 4 rfl
  have ck_5 : w6.cell? ⟨w.heap.size + 1 + 1, 5, none⟩ = some (.slice Ah6b Nh6b Ch6b) := Blk.at 5 rfl
  exact bodyPost_ret (v := .tuple #[.agg #[.bool sh6a, .slice ah6a nh6a ch6a, .slice Ah6a Nh6a Ch6a, .bool sh6b, .slice ah6b nh6b ch6b, .slice Ah6b Nh6b Ch6b], .int .i64 1]) (by simp [results, Tryz.results39, go_sem, ck_0, ck_1, ck_2, ck_3, ck_4, ck_5]) rfl ⟨_, _, rfl, (RV2.mk h6a h6b), rfl, hs⟩

/-- What Depth hands back. -/
def depQ (x y z u : Rat) : Rat × Rat × Int := if x < 0 then (0, 0, 1) else if z < 0 then (0, 0, 1) else (mulLo (mulLo x y z u) (mulHi x y z u) halfQ halfQ, mulHi (mulLo x y z u) (mulHi x y z u) halfQ halfQ, 0)
theorem sc_Depth_all {w : World} {v v' : Value} {x y z u a b : Rat} {c : Int} (h : PV2 w v x y) (h' : PV2 w v' z u) (sx : SzQ 100000 x) (sy : SzQ 100000 y) (sz : SzQ 100000 z) (su : SzQ 100000 u) (e : depQ x y z u = (a, b, c)) :
    Calls Tryz.prog 38 #[v, v'] w (Ret2 (fun w v => PV2 w v a b) (fun _ v => v = .int .i64 c) w) := by
  unfold depQ at e
  by_cases h1 : x < 0
  · rw [if_pos h1] at e; cases e
    exact sc_Depth_bad1 _ _ _ _ _ _ _ h (SzQ.mid sx) (SzQ.mid sy) h' (SzQ.mid sz) (SzQ.mid su) h1
  · rw [if_neg h1] at e
    by_cases h2 : z < 0
    · rw [if_pos h2] at e; cases e
      exact sc_Depth_bad2 _ _ _ _ _ _ _ h (SzQ.mid sx) (SzQ.mid sy) h' (SzQ.mid sz) (SzQ.mid su) (Rat.not_lt.1 h1) h2
    · rw [if_neg h2] at e; cases e
      exact sc_Depth_ok _ _ _ _ _ _ _ h (SzQ.mid sx) (SzQ.mid sy) h' (SzQ.mid sz) (SzQ.mid su) sx sy sz su (Rat.not_lt.1 h1) (Rat.not_lt.1 h2)
theorem r7_Depth_all {w : World} {v v' : Value} {x y z u a b : Rat} {c : Int} (h : RV2 w v x y) (h' : RV2 w v' z u) (sx : SzQ 100000 x) (sy : SzQ 100000 y) (sz : SzQ 100000 z) (su : SzQ 100000 u) (e : depQ x y z u = (a, b, c)) :
    Calls Tryz.prog 39 #[v, v'] w (Ret2 (fun w v => RV2 w v a b) (fun _ v => v = .int .i64 c) w) := by
  unfold depQ at e
  by_cases h1 : x < 0
  · rw [if_pos h1] at e; cases e
    exact r7_Depth_bad1 _ _ _ _ _ _ _ h h' h1
  · rw [if_neg h1] at e
    by_cases h2 : z < 0
    · rw [if_pos h2] at e; cases e
      exact r7_Depth_bad2 _ _ _ _ _ _ _ h h' (Rat.not_lt.1 h1) h2
    · rw [if_neg h2] at e; cases e
      exact r7_Depth_ok _ _ _ _ _ _ _ h h' sx sy sz su (Rat.not_lt.1 h1) (Rat.not_lt.1 h2)
/-- What Plies hands back. -/
def plAll (L : List Rat) (lo hi : Rat) : Int × Int × Int := if L.length = 0 then (0, 0, 4) else if 12 < L.length then (0, 0, 4) else if allPos L = false then (0, 0, 1) else if plF L lo hi L.length < 0 then (0, 0, 5) else (plF L lo hi L.length, plL L lo hi L.length, 0)
theorem sc_Plies_all {w : World} {v vr : Value} {L : List Rat} {lo hi : Rat} {a b c : Int} (hl : Rows 3 40 PC w v L) (hz : ∀ i, i < L.length → SzQ 50000 (nthQ L i)) (hr : PV2 w vr lo hi) (slo : Mid lo) (shi : Mid hi) (e : plAll L lo hi = (a, b, c)) :
    Calls Tryz.prog 32 #[v, vr] w (RetV w (.tuple #[.int .i64 a, .int .i64 b, .int .i64 c])) := by
  unfold plAll at e
  by_cases h0 : L.length = 0
  · rw [if_pos h0] at e; cases e
    exact sc_Plies_none _ _ _ _ _ _ hl h0 hr
  · rw [if_neg h0] at e
    by_cases h1 : 12 < L.length
    · rw [if_pos h1] at e; cases e
      exact sc_Plies_many _ _ _ _ _ _ hl h1 hr
    · rw [if_neg h1] at e
      by_cases h2 : allPos L = false
      · rw [if_pos h2] at e; cases e
        exact sc_Plies_pos _ _ _ _ _ _ hl (by omega) (by omega) h2 hr
      · rw [if_neg h2] at e
        have h3 := sc_Plies_ok v vr L lo hi w hl (by omega) (by omega) (by simpa using h2) hz hr slo shi
        by_cases h4 : plF L lo hi L.length < 0
        · rw [if_pos h4] at e; cases e
          rw [plR_no h4] at h3; exact h3
        · rw [if_neg h4] at e; cases e
          rw [plR_yes h4] at h3; exact h3
theorem r7_Plies_all {w : World} {v vr : Value} {L : List Rat} {lo hi : Rat} {a b c : Int} (hl : Rows 3 45 RC w v L) (hz : ∀ i, i < L.length → SzQ 50000 (nthQ L i)) (hr : RV2 w vr lo hi) (slo : Mid lo) (shi : Mid hi) (e : plAll L lo hi = (a, b, c)) :
    Calls Tryz.prog 41 #[v, vr] w (RetV w (.tuple #[.int .i64 a, .int .i64 b, .int .i64 c])) := by
  unfold plAll at e
  by_cases h0 : L.length = 0
  · rw [if_pos h0] at e; cases e
    exact r7_Plies_none _ _ _ _ _ _ hl h0 hr
  · rw [if_neg h0] at e
    by_cases h1 : 12 < L.length
    · rw [if_pos h1] at e; cases e
      exact r7_Plies_many _ _ _ _ _ _ hl h1 hr
    · rw [if_neg h1] at e
      by_cases h2 : allPos L = false
      · rw [if_pos h2] at e; cases e
        exact r7_Plies_pos _ _ _ _ _ _ hl (by omega) (by omega) h2 hr
      · rw [if_neg h2] at e
        have h3 := r7_Plies_ok v vr L lo hi w hl (by omega) (by omega) (by simpa using h2) hz hr slo shi
        by_cases h4 : plF L lo hi L.length < 0
        · rw [if_pos h4] at e; cases e
          rw [plR_no h4] at h3; exact h3
        · rw [if_neg h4] at e; cases e
          rw [plR_yes h4] at h3; exact h3
end Go.Proofs.YtlfnapfnpkhggaaGreat
