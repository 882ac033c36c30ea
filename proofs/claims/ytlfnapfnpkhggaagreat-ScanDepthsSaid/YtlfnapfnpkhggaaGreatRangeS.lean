/-
  The reference's SMul of ranges.
-/
import Derived.Test.YtlfnapfnpkhggaaGreatRangeR
import Derived.Test.YtlfnapfnpkhggaaGreatHeld3
set_option linter.unusedSimpArgs false
set_option linter.unusedVariables false
namespace Go.Proofs.YtlfnapfnpkhggaaGreat
open Go.RowKit Dg
attribute [local go_sem ↓] Go.wp_at_zero Go.wp_at_succ

set_option maxRecDepth 100000 in
set_option maxHeartbeats 16000000 in
theorem r_SMul (vxy : Value) (x y : Rat) (vzu : Value) (z u : Rat) (w : World) (hxy : RV2 w vxy x y) (hzu : RV2 w vzu z u) (sx : SzQ 300000 x) (sy : SzQ 300000 y) (sz : SzQ 300000 z) (su : SzQ 300000 u) :
    Calls Tryz.prog 112 #[vxy, vzu] w (Ret1 (fun w v => RV2 w v (mnQ (mnQ (x * z) (x * u)) (mnQ (y * z) (y * u))) (mxQ (mxQ (x * z) (x * u)) (mxQ (y * z) (y * u)))) w) := by
  obtain ⟨shx, ahx, nhx, chx, Ahx, Nhx, Chx, shy, ahy, nhy, chy, Ahy, Nhy, Chy, rfl, hx, hy⟩ := hxy.shape
  clear hxy
  obtain ⟨shz, ahz, nhz, chz, Ahz, Nhz, Chz, shu, ahu, nhu, chu, Ahu, Nhu, Chu, rfl, hz, hu⟩ := hzu.shape
  clear hzu
  have hs := Below.refl w.heap.size w
  go_enter Tryz.func112, Tryz.ntmps112
  go_upto_region 1 with fail
  refine Code.abs ?_
  intro w1 hW
  have hG : Gr [] w w1 := by rw [hW]; exact (Gr.refl _ _).alloc.alloc.alloc
  have hbw : Below w.heap.size w w1 := hG.below0 hs.size
  have hk : KeepD w w1 := hG.keep True.intro
  have sz_w1 : w.heap.size ≤ w.heap.size := hs.size
  have Blx : Bx w1 (w.heap.size) 88 #[.bool shx, .slice ahx nhx chx, .slice Ahx Nhx Chx, .bool shy, .slice ahy nhy chy, .slice Ahy Nhy Chy] := by rw [hW]; exact (((Bx.new0 _ _ _).alloc _).alloc _)
  have Bly : Bx w1 (w.heap.size + 1) 88 #[.bool shz, .slice ahz nhz chz, .slice Ahz Nhz Chz, .bool shu, .slice ahu nhu chu, .slice Ahu Nhu Chu] := by rw [hW]; exact ((Bx.new0 _ _ _).alloc _)
  have Blk : Bx w1 (w.heap.size + 1 + 1) 88 #[.bool false, .slice none 0 0, .slice none 0 0, .bool false, .slice none 0 0, .slice none 0 0] := by rw [hW]; exact (Bx.new0 _ _ _)
  replace hs := hs.trans hbw
  replace hx := hx.keep hk
  replace hy := hy.keep hk
  replace hz := hz.keep hk
  replace hu := hu.keep hk
  clear hW hG hk hbw
  have hz_w1 : w.heap.size + 1 + 1 < w1.heap.size := Blk.lt
  go_cut [5, 6] (fun kv0 kv1 wz => ∃ ga gb sh2a ah2a nh2a ch2a Ah2a Nh2a Ch2a sh2b ah2b nh2b ch2b Ah2b Nh2b Ch2b sh4a ah4a nh4a ch4a Ah4a Nh4a Ch4a sh4b ah4b nh4b ch4b Ah4b Nh4b Ch4b, kv0 = .pointer (some ⟨ga, 0, none⟩) ∧ kv1 = .pointer (some ⟨gb, 0, none⟩) ∧ w.heap.size ≤ ga ∧ ga ≠ w.heap.size ∧ ga ≠ (w.heap.size + 1) ∧ ga ≠ (w.heap.size + 1 + 1) ∧ w.heap.size ≤ gb ∧ gb ≠ w.heap.size ∧ gb ≠ (w.heap.size + 1) ∧ gb ≠ (w.heap.size + 1 + 1) ∧ ga ≠ gb ∧ Bx wz ga 88 #[.bool sh2a, .slice ah2a nh2a ch2a, .slice Ah2a Nh2a Ch2a, .bool sh2b, .slice ah2b nh2b ch2b, .slice Ah2b Nh2b Ch2b] ∧ Bx wz gb 88 #[.bool sh4a, .slice ah4a nh4a ch4a, .slice Ah4a Nh4a Ch4a, .bool sh4b, .slice ah4b nh4b ch4b, .slice Ah4b Nh4b Ch4b] ∧ Below w.heap.size w wz ∧ Bx wz (w.heap.size) 88 #[.bool shx, .slice ahx nhx chx, .slice Ahx Nhx Chx, .bool shy, .slice ahy nhy chy, .slice Ahy Nhy Chy] ∧ Bx wz (w.heap.size + 1) 88 #[.bool shz, .slice ahz nhz chz, .slice Ahz Nhz Chz, .bool shu, .slice ahu nhu chu, .slice Ahu Nhu Chu] ∧ Bx wz (w.heap.size + 1 + 1) 88 #[.bool false, .slice none 0 0, .slice none 0 0, .bool false, .slice none 0 0, .slice none 0 0] ∧ RV wz (.agg #[.bool shx, .slice ahx nhx chx, .slice Ahx Nhx Chx]) (x) ∧ RV wz (.agg #[.bool shy, .slice ahy nhy chy, .slice Ahy Nhy Chy]) (y) ∧ RV wz (.agg #[.bool shz, .slice ahz nhz chz, .slice Ahz Nhz Chz]) (z) ∧ RV wz (.agg #[.bool shu, .slice ahu nhu chu, .slice Ahu Nhu Chu]) (u) ∧ RV wz (.agg #[.bool sh2a, .slice ah2a nh2a ch2a, .slice Ah2a Nh2a Ch2a]) (x * z) ∧ RV wz (.agg #[.bool sh2b, .slice ah2b nh2b ch2b, .slice Ah2b Nh2b Ch2b]) (x * z) ∧ RV wz (.agg #[.bool sh4a, .slice ah4a nh4a ch4a, .slice Ah4a Nh4a Ch4a]) (x * u) ∧ RV wz (.agg #[.bool sh4b, .slice ah4b nh4b ch4b, .slice Ah4b Nh4b Ch4b]) (x * u))
  case first =>
    refine U_region (S := fun w' => w'.cell? ⟨w.heap.size, 0, none⟩ = some (.bool shx) ∧ w'.cell? ⟨w.heap.size, 1, none⟩ = some (.slice ahx nhx chx) ∧ w'.cell? ⟨w.heap.size, 2, none⟩ = some (.slice Ahx Nhx Chx) ∧ w'.cell? ⟨w.heap.size, 3, none⟩ = some (.bool shy) ∧ w'.cell? ⟨w.heap.size, 4, none⟩ = some (.slice ahy nhy chy) ∧ w'.cell? ⟨w.heap.size, 5, none⟩ = some (.slice Ahy Nhy Chy) ∧ w'.cell? ⟨w.heap.size + 1, 0, none⟩ = some (.bool shz) ∧ w'.cell? ⟨w.heap.size + 1, 1, none⟩ = some (.slice ahz nhz chz) ∧ w'.cell? ⟨w.heap.size + 1, 2, none⟩ = some (.slice Ahz Nhz Chz) ∧ w'.cell? ⟨w.heap.size + 1, 3, none⟩ = some (.bool shu) ∧ w'.cell? ⟨w.heap.size + 1, 4, none⟩ = some (.slice ahu nhu chu) ∧ w'.cell? ⟨w.heap.size + 1, 5, none⟩ = some (.slice Ahu Nhu Chu)) (by kernel_rfl) 15 ?_
    refine AnyU.abs ?_
    intro w2 hW
    have hb : Below w1.heap.size w1 w2 := by rw [hW]; exact bDrew _
    replace hs := bStep hs hb
    replace Blx := Blx.mono hb
    replace Bly := Bly.mono hb
    replace Blk := Blk.mono hb
    replace hx := hx.mono hb
    replace hy := hy.mono hb
    replace hz := hz.mono hb
    replace hu := hu.mono hb
    clear hb hW
    obtain ⟨FP, HP⟩ : ∃ FP : World → Prop, ∀ W, FP W ↔ (Below w.heap.size w W ∧ Bx W (w.heap.size) 88 #[.bool shx, .slice ahx nhx chx, .slice Ahx Nhx Chx, .bool shy, .slice ahy nhy chy, .slice Ahy Nhy Chy] ∧ Bx W (w.heap.size + 1) 88 #[.bool shz, .slice ahz nhz chz, .slice Ahz Nhz Chz, .bool shu, .slice ahu nhu chu, .slice Ahu Nhu Chu] ∧ Bx W (w.heap.size + 1 + 1) 88 #[.bool false, .slice none 0 0, .slice none 0 0, .bool false, .slice none 0 0, .slice none 0 0] ∧ RV W (.agg #[.bool shx, .slice ahx nhx chx, .slice Ahx Nhx Chx]) (x) ∧ RV W (.agg #[.bool shy, .slice ahy nhy chy, .slice Ahy Nhy Chy]) (y) ∧ RV W (.agg #[.bool shz, .slice ahz nhz chz, .slice Ahz Nhz Chz]) (z) ∧ RV W (.agg #[.bool shu, .slice ahu nhu chu, .slice Ahu Nhu Chu]) (u)) := ⟨_, fun _ => Iff.rfl⟩
    have HM : ∀ W W', FP W → Below W.heap.size W W' → FP W' := by intro W W' h hb; obtain ⟨hs, Blx, Bly, Blk, hx, hy, hz, hu⟩ := (HP _).1 h; exact (HP _).2 ⟨bStep hs hb, Blx.mono hb, Bly.mono hb, Blk.mono hb, hx.mono hb, hy.mono hb, hz.mono hb, hu.mono hb⟩
    have HC : ∀ W, FP W → W.cell? ⟨w.heap.size, 0, none⟩ = some (.bool shx) ∧ W.cell? ⟨w.heap.size, 1, none⟩ = some (.slice ahx nhx chx) ∧ W.cell? ⟨w.heap.size, 2, none⟩ = some (.slice Ahx Nhx Chx) ∧ W.cell? ⟨w.heap.size, 3, none⟩ = some (.bool shy) ∧ W.cell? ⟨w.heap.size, 4, none⟩ = some (.slice ahy nhy chy) ∧ W.cell? ⟨w.heap.size, 5, none⟩ = some (.slice Ahy Nhy Chy) ∧ W.cell? ⟨w.heap.size + 1, 0, none⟩ = some (.bool shz) ∧ W.cell? ⟨w.heap.size + 1, 1, none⟩ = some (.slice ahz nhz chz) ∧ W.cell? ⟨w.heap.size + 1, 2, none⟩ = some (.slice Ahz Nhz Chz) ∧ W.cell? ⟨w.heap.size + 1, 3, none⟩ = some (.bool shu) ∧ W.cell? ⟨w.heap.size + 1, 4, none⟩ = some (.slice ahu nhu chu) ∧ W.cell? ⟨w.heap.size + 1, 5, none⟩ = some (.slice Ahu Nhu Chu) := by intro W h; obtain ⟨hs, Blx, Bly, Blk, hx, hy, hz, hu⟩ := (HP _).1 h; exact ⟨Blx.at 0 rfl, Blx.at 1 rfl, Blx.at 2 rfl, Blx.at 3 rfl, Blx.at 4 rfl, Blx.at 5 rfl, Bly.at 0 rfl, Bly.at 1 rfl, Bly.at 2 rfl, Bly.at 3 rfl, Bly.at 4 rfl, Bly.at 5 rfl⟩
    obtain ⟨NE, HN⟩ : ∃ NE : Nat → Prop, ∀ g, NE g ↔ (w.heap.size ≠ g ∧ (w.heap.size + 1) ≠ g ∧ (w.heap.size + 1 + 1) ≠ g) := ⟨_, fun _ => Iff.rfl⟩
    have HE : ∀ W, FP W → NE W.heap.size := by intro W h; obtain ⟨hs, Blx, Bly, Blk, hx, hy, hz, hu⟩ := (HP _).1 h; exact (HN _).2 ⟨Nat.ne_of_lt Blx.lt, Nat.ne_of_lt Bly.lt, Nat.ne_of_lt Blk.lt⟩
    have HG : ∀ W W' g, FP W → Gr [g] W W' → KeepD W W' → w.heap.size ≤ g → NE g → FP W' := by intro W W' g h hG hk hg hn; obtain ⟨hs, Blx, Bly, Blk, hx, hy, hz, hu⟩ := (HP _).1 h; obtain ⟨e_x, e_y, e_k⟩ := (HN g).1 hn; exact (HP _).2 ⟨hs.trans (hG.below1 hs.size hg), hG.bx Blx (notMem1 e_x), hG.bx Bly (notMem1 e_y), hG.bx Blk (notMem1 e_k), hx.keep hk, hy.keep hk, hz.keep hk, hu.keep hk⟩
    have F : FP w2 := (HP _).2 ⟨hs, Blx, Bly, Blk, hx, hy, hz, hu⟩
    clear hs Blx Bly Blk hx hy hz hu
    have hH := HC _ F
    refine U_takeD (i := 0) (d := 9) (v := ?_) rfl rfl (by kernel_rfl) (by kernel_rfl) (by kernel_rfl) (by kernel_rfl) (fun _ _ _ h => h) (Or.inl ⟨by rfl, ?_⟩) hH ?_
    rotate_left
    · intro w hSw
      try dsimp only at hSw
      go_simp
      try with_reducible rfl
    simp only [LY]
    refine U_takeD (i := 1) (d := 10) (v := ?_) rfl rfl (by kernel_rfl) (by kernel_rfl) (by kernel_rfl) (by kernel_rfl) (fun _ _ _ h => h) (Or.inl ⟨by rfl, ?_⟩) hH ?_
    rotate_left
    · intro w hSw
      try dsimp only at hSw
      go_simp
      try with_reducible rfl
    simp only [LY]
    refine U_takeD (i := 2) (d := 11) (v := ?_) rfl rfl (by kernel_rfl) (by kernel_rfl) (by kernel_rfl) (by kernel_rfl) (fun _ _ _ h => h) (Or.inl ⟨by rfl, ?_⟩) hH ?_
    rotate_left
    · intro w hSw
      try dsimp only at hSw
      go_simp
      try with_reducible rfl
    simp only [LY]
    refine U_takeD (i := 3) (d := 12) (v := ?_) rfl rfl (by kernel_rfl) (by kernel_rfl) (by kernel_rfl) (by kernel_rfl) (fun _ _ _ h => h) (Or.inl ⟨by rfl, ?_⟩) hH ?_
    rotate_left
    · intro w hSw
      try dsimp only at hSw
      go_simp
      try with_reducible rfl
    simp only [LY]
    refine U_takeD (i := 6) (d := 15) (v := ?_) rfl rfl (by kernel_rfl) (by kernel_rfl) (by kernel_rfl) (by kernel_rfl) (fun _ _ _ h => h) (Or.inl ⟨by rfl, ?_⟩) hH ?_
    rotate_left
    · intro w hSw
      try dsimp only at hSw
      go_simp
      try with_reducible rfl
    simp only [LY]
    refine U_takeD (i := 7) (d := 16) (v := ?_) rfl rfl (by kernel_rfl) (by kernel_rfl) (by kernel_rfl) (by kernel_rfl) (fun _ _ _ h => h) (Or.inl ⟨by rfl, ?_⟩) hH ?_
    rotate_left
    · intro w hSw
      try dsimp only at hSw
      go_simp
      try with_reducible rfl
    simp only [LY]
    refine U_takeD (i := 8) (d := 17) (v := ?_) rfl rfl (by kernel_rfl) (by kernel_rfl) (by kernel_rfl) (by kernel_rfl) (fun _ _ _ h => h) (Or.inl ⟨by rfl, ?_⟩) hH ?_
    rotate_left
    · intro w hSw
      try dsimp only at hSw
      go_simp
      try with_reducible rfl
    simp only [LY]
    refine U_takeD (i := 9) (d := 18) (v := ?_) rfl rfl (by kernel_rfl) (by kernel_rfl) (by kernel_rfl) (by kernel_rfl) (fun _ _ _ h => h) (Or.inl ⟨by rfl, ?_⟩) hH ?_
    rotate_left
    · intro w hSw
      try dsimp only at hSw
      go_simp
      try with_reducible rfl
    simp only [LY]
    clear hH
    refine U_letters ?_
    intro X a0 HX HA
    have key19 : ∀ (W : World) (g_a : Nat) (g_b : Nat) (uh1 : Value) (uh2 : Value) (uh3 : Value) (uh4 : Value), FP W → (w.heap.size ≤ g_a) → (NE g_a) → (Bx W g_a 88 #[.bool false, .slice none 0 0, .slice none 0 0, .bool false, .slice none 0 0, .slice none 0 0]) → (w.heap.size ≤ g_b) → (NE g_b) → (Bx W g_b 88 #[.bool false, .slice none 0 0, .slice none 0 0, .bool false, .slice none 0 0, .slice none 0 0]) → (g_a ≠ g_b) → (RV2 W uh2 (x * z) (x * z)) → (RV2 W uh4 (x * u) (x * u)) → X 2 #[true, true, true, true, true, true, true, true, true, true, true, true, true, true, false, false] ((((((a0.put (some 13) (uh1)).put (some 14) (uh2)).put (some 19) (uh3)).put (some 20) (uh4)).put (some 5) (.pointer (some ⟨g_a, 0, none⟩))).put (some 6) (.pointer (some ⟨g_b, 0, none⟩))) W := by
      intro W g_a g_b uh1 uh2 uh3 uh4 F sz_a ne_a Bla sz_b ne_b Blb m_a_b h2 h4
      rw [← HX.out, ← HA.out]
      try simp only [LY]
      obtain ⟨sh2a, ah2a, nh2a, ch2a, Ah2a, Nh2a, Ch2a, sh2b, ah2b, nh2b, ch2b, Ah2b, Nh2b, Ch2b, rfl, h2a, h2b⟩ := h2.shape
      obtain ⟨sh4a, ah4a, nh4a, ch4a, Ah4a, Nh4a, Ch4a, sh4b, ah4b, nh4b, ch4b, Ah4b, Nh4b, Ch4b, rfl, h4a, h4b⟩ := h4.shape
      have ca_0 : W.cell? ⟨g_a, 0, none⟩ = some (.bool false) := Bla.at 0 rfl
      have ca_1 : W.cell? ⟨g_a, 1, none⟩ = some (.slice none 0 0) := Bla.at 1 rfl
      have ca_2 : W.cell? ⟨g_a, 2, none⟩ = some (.slice none 0 0) := Bla.at 2 rfl
      have ca_3 : W.cell? ⟨g_a, 3, none⟩ = some (.bool false) := Bla.at 3 rfl
      have ca_4 : W.cell? ⟨g_a, 4, none⟩ = some (.slice none 0 0) := Bla.at 4 rfl
      have ca_5 : W.cell? ⟨g_a, 5, none⟩ = some (.slice none 0 0) := Bla.at 5 rfl
      have fa := Bla.free
      have La : g_a < W.heap.size := Bla.lt
      refine U_one (i := 14) (by kernel_rfl) rfl (fun K hK => ?_)
      go_simp
      generalize hW_ : ((((((W.setCell ⟨g_a, 0, none⟩ (.bool sh2a)).setCell ⟨g_a, 1, none⟩ (.slice ah2a nh2a ch2a)).setCell ⟨g_a, 2, none⟩ (.slice Ah2a Nh2a Ch2a)).setCell ⟨g_a, 3, none⟩ (.bool sh2b)).setCell ⟨g_a, 4, none⟩ (.slice ah2b nh2b ch2b)).setCell ⟨g_a, 5, none⟩ (.slice Ah2b Nh2b Ch2b)) = w3
      have hW := hW_.symm
      clear hW_
      have hG : Gr [g_a] W w3 := by rw [hW]; exact (Gr.refl _ _).set.set.set.set.set.set
      have hk : KeepD W w3 := hG.keep ⟨⟨_, Bla.ty, by decide⟩, True.intro⟩
      replace Bla : Bx w3 (g_a) 88 #[.bool sh2a, .slice ah2a nh2a ch2a, .slice Ah2a Nh2a Ch2a, .bool sh2b, .slice ah2b nh2b ch2b, .slice Ah2b Nh2b Ch2b] := by rw [hW]; exact Bla.set6
      replace F := HG _ _ _ F hG hk sz_a ne_a
      replace Blb := hG.bx Blb (notMem1 (by omega))
      replace h2a := h2a.keep hk
      replace h2b := h2b.keep hk
      replace h4a := h4a.keep hk
      replace h4b := h4b.keep hk
      clear hW hG hk
      refine hK.out _ _ (HC _ F) (fun hH => ?_)
      clear hK K
      try simp only [LY]
      clear hH
      have cb_0 : w3.cell? ⟨g_b, 0, none⟩ = some (.bool false) := Blb.at 0 rfl
      have cb_1 : w3.cell? ⟨g_b, 1, none⟩ = some (.slice none 0 0) := Blb.at 1 rfl
      have cb_2 : w3.cell? ⟨g_b, 2, none⟩ = some (.slice none 0 0) := Blb.at 2 rfl
      have cb_3 : w3.cell? ⟨g_b, 3, none⟩ = some (.bool false) := Blb.at 3 rfl
      have cb_4 : w3.cell? ⟨g_b, 4, none⟩ = some (.slice none 0 0) := Blb.at 4 rfl
      have cb_5 : w3.cell? ⟨g_b, 5, none⟩ = some (.slice none 0 0) := Blb.at 5 rfl
      have fb := Blb.free
      have Lb : g_b < w3.heap.size := Blb.lt
      refine U_last (by kernel_rfl) rfl (by kernel_rfl) (fun K hK => ?_)
      go_simp
      refine hK.out _ _ ?_
      clear hK K
      intro w4 hW
      have hG : Gr [g_b] w3 w4 := by rw [hW]; exact (Gr.refl _ _).set.set.set.set.set.set
      have hk : KeepD w3 w4 := hG.keep ⟨⟨_, Blb.ty, by decide⟩, True.intro⟩
      replace Blb : Bx w4 (g_b) 88 #[.bool sh4a, .slice ah4a nh4a ch4a, .slice Ah4a Nh4a Ch4a, .bool sh4b, .slice ah4b nh4b ch4b, .slice Ah4b Nh4b Ch4b] := by rw [hW]; exact Blb.set6
      replace F := HG _ _ _ F hG hk sz_b ne_b
      replace Bla := hG.bx Bla (notMem1 (by omega))
      replace h2a := h2a.keep hk
      replace h2b := h2b.keep hk
      replace h4a := h4a.keep hk
      replace h4b := h4b.keep hk
      clear hW hG hk
      obtain ⟨hs, Blx, Bly, Blk, hx, hy, hz, hu⟩ := (HP _).1 F
      try simp only [LY]
      obtain ⟨e_x_a, e_y_a, e_k_a⟩ := (HN _).1 ne_a
      obtain ⟨e_x_b, e_y_b, e_k_b⟩ := (HN _).1 ne_b
      clear HX HA HM HP HC HG HN HE
      go_wp2_with fail
      go_meet
      exact ⟨g_a, g_b, _, _, _, _, _, _, _, _, _, _, _, _, _, _, _, _, _, _, _, _, _, _, _, _, _, _, _, _, rfl, rfl, (by first | exact sz_a | omega), (by omega), (by omega), (by omega), (by first | exact sz_b | omega), (by omega), (by omega), (by omega), (by omega), Bla, Blb, hs, Blx, Bly, Blk, hx, hy, hz, hu, h2a, h2b, h4a, h4b⟩
    replace key19 := Lib.hid key19
    have key18 : ∀ (W : World) (g_a : Nat) (g_b : Nat) (uh1 : Value) (uh2 : Value) (uh3 : Value), FP W → (w.heap.size ≤ g_a) → (NE g_a) → (Bx W g_a 88 #[.bool false, .slice none 0 0, .slice none 0 0, .bool false, .slice none 0 0, .slice none 0 0]) → (w.heap.size ≤ g_b) → (NE g_b) → (Bx W g_b 88 #[.bool false, .slice none 0 0, .slice none 0 0, .bool false, .slice none 0 0, .slice none 0 0]) → (g_a ≠ g_b) → (RV2 W uh2 (x * z) (x * z)) → (RV W uh3 (x * u)) → X 3 #[true, true, true, true, true, true, true, true, true, true, true, false, true, true, false, false] (((((a0.put (some 13) (uh1)).put (some 14) (uh2)).put (some 19) (uh3)).put (some 5) (.pointer (some ⟨g_a, 0, none⟩))).put (some 6) (.pointer (some ⟨g_b, 0, none⟩))) W := by
      intro W g_a g_b uh1 uh2 uh3 F sz_a ne_a Bla sz_b ne_b Blb m_a_b h2 h3
      rw [← HX.out, ← HA.out]
      try simp only [LY]
      refine U_one (i := 11) (by kernel_rfl) rfl (fun K hK => ?_)
      obtain ⟨hs, Blx, Bly, Blk, hx, hy, hz, hu⟩ := (HP _).1 F
      go_simp
      (with_reducible refine (r_Only _ _ _ h3).mono ?_)
      rintro e W1 ⟨uh4, rfl, h4, hb⟩
      replace F := HM _ _ F hb
      replace Bla := Bla.mono hb
      replace Blb := Blb.mono hb
      replace h2 := h2.mono hb
      replace h3 := h3.mono hb
      clear hb hs Blx Bly Blk hx hy hz hu
      try go_wp2_with fail
      refine hK.out _ _ (HC _ F) (fun hH => ?_)
      clear hK K
      try simp only [LY]
      have hkey := key19.out W1 g_a g_b uh1 uh2 uh3 uh4 F sz_a ne_a Bla sz_b ne_b Blb m_a_b h2 h4
      rw [← HX.out, ← HA.out] at hkey
      try simp only [LY] at hkey
      exact U_at (by kernel_rfl) (by kernel_rfl) hkey
    replace key18 := Lib.hid key18
    have key17 : ∀ (W : World) (g_b : Nat) (uh1 : Value) (uh2 : Value) (uh3 : Value) (uh4 : Value), FP W → (w.heap.size ≤ g_b) → (NE g_b) → (Bx W g_b 88 #[.bool false, .slice none 0 0, .slice none 0 0, .bool false, .slice none 0 0, .slice none 0 0]) → (RV2 W uh2 (x * z) (x * z)) → (RV2 W uh4 (x * u) (x * u)) → X 3 #[true, true, true, true, true, true, true, true, true, true, true, true, false, true, false, false] (((((a0.put (some 13) (uh1)).put (some 14) (uh2)).put (some 19) (uh3)).put (some 20) (uh4)).put (some 6) (.pointer (some ⟨g_b, 0, none⟩))) W := by
      intro W g_b uh1 uh2 uh3 uh4 F sz_b ne_b Blb h2 h4
      rw [← HX.out, ← HA.out]
      try simp only [LY]
      refine U_one (i := 12) (by kernel_rfl) rfl (fun K hK => ?_)
      go_simp
      refine alloc_letter ((HP _).1 F).1 (fun W1 hb Bla sz_a => ?_)
      have ne_a := HE _ F
      have m_a_b := Nat.ne_of_gt Blb.lt
      replace F := HM _ _ F hb
      replace Blb := Blb.mono hb
      replace h2 := h2.mono hb
      replace h4 := h4.mono hb
      clear hb
      refine hK.out _ _ (HC _ F) (fun hH => ?_)
      clear hK K
      try simp only [LY]
      have hkey := key19.out W1 W.heap.size g_b uh1 uh2 uh3 uh4 F sz_a ne_a Bla sz_b ne_b Blb m_a_b h2 h4
      rw [← HX.out, ← HA.out] at hkey
      try simp only [LY] at hkey
      exact U_at (by kernel_rfl) (by kernel_rfl) hkey
    replace key17 := Lib.hid key17
    have key16 : ∀ (W : World) (g_a : Nat) (uh1 : Value) (uh2 : Value) (uh3 : Value) (uh4 : Value), FP W → (w.heap.size ≤ g_a) → (NE g_a) → (Bx W g_a 88 #[.bool false, .slice none 0 0, .slice none 0 0, .bool false, .slice none 0 0, .slice none 0 0]) → (RV2 W uh2 (x * z) (x * z)) → (RV2 W uh4 (x * u) (x * u)) → X 3 #[true, true, true, true, true, true, true, true, true, true, true, true, true, false, false, false] (((((a0.put (some 13) (uh1)).put (some 14) (uh2)).put (some 19) (uh3)).put (some 20) (uh4)).put (some 5) (.pointer (some ⟨g_a, 0, none⟩))) W := by
      intro W g_a uh1 uh2 uh3 uh4 F sz_a ne_a Bla h2 h4
      rw [← HX.out, ← HA.out]
      try simp only [LY]
      refine U_one (i := 13) (by kernel_rfl) rfl (fun K hK => ?_)
      go_simp
      refine alloc_letter ((HP _).1 F).1 (fun W1 hb Blb sz_b => ?_)
      have ne_b := HE _ F
      have m_a_b := Nat.ne_of_lt Bla.lt
      replace F := HM _ _ F hb
      replace Bla := Bla.mono hb
      replace h2 := h2.mono hb
      replace h4 := h4.mono hb
      clear hb
      refine hK.out _ _ (HC _ F) (fun hH => ?_)
      clear hK K
      try simp only [LY]
      have hkey := key19.out W1 g_a W.heap.size uh1 uh2 uh3 uh4 F sz_a ne_a Bla sz_b ne_b Blb m_a_b h2 h4
      rw [← HX.out, ← HA.out] at hkey
      try simp only [LY] at hkey
      exact U_at (by kernel_rfl) (by kernel_rfl) hkey
    replace key16 := Lib.hid key16
    have key15 : ∀ (W : World) (g_a : Nat) (g_b : Nat) (uh1 : Value) (uh2 : Value), FP W → (w.heap.size ≤ g_a) → (NE g_a) → (Bx W g_a 88 #[.bool false, .slice none 0 0, .slice none 0 0, .bool false, .slice none 0 0, .slice none 0 0]) → (w.heap.size ≤ g_b) → (NE g_b) → (Bx W g_b 88 #[.bool false, .slice none 0 0, .slice none 0 0, .bool false, .slice none 0 0, .slice none 0 0]) → (g_a ≠ g_b) → (RV2 W uh2 (x * z) (x * z)) → X 4 #[true, true, true, true, true, true, true, true, true, true, false, false, true, true, false, false] ((((a0.put (some 13) (uh1)).put (some 14) (uh2)).put (some 5) (.pointer (some ⟨g_a, 0, none⟩))).put (some 6) (.pointer (some ⟨g_b, 0, none⟩))) W := by
      intro W g_a g_b uh1 uh2 F sz_a ne_a Bla sz_b ne_b Blb m_a_b h2
      rw [← HX.out, ← HA.out]
      try simp only [LY]
      refine U_one (i := 10) (by kernel_rfl) rfl (fun K hK => ?_)
      obtain ⟨hs, Blx, Bly, Blk, hx, hy, hz, hu⟩ := (HP _).1 F
      go_simp
      (with_reducible refine (rMul hx hu (SzQ.fit sx) (SzQ.fit su)).mono ?_)
      rintro e W1 ⟨uh3, rfl, h3, hb⟩
      replace F := HM _ _ F hb
      replace Bla := Bla.mono hb
      replace Blb := Blb.mono hb
      replace h2 := h2.mono hb
      clear hb hs Blx Bly Blk hx hy hz hu
      try go_wp2_with fail
      refine hK.out _ _ (HC _ F) (fun hH => ?_)
      clear hK K
      try simp only [LY]
      have hkey := key18.out W1 g_a g_b uh1 uh2 uh3 F sz_a ne_a Bla sz_b ne_b Blb m_a_b h2 h3
      rw [← HX.out, ← HA.out] at hkey
      try simp only [LY] at hkey
      exact U_at (by kernel_rfl) (by kernel_rfl) hkey
    replace key15 := Lib.hid key15
    have key14 : ∀ (W : World) (g_b : Nat) (uh1 : Value) (uh2 : Value) (uh3 : Value), FP W → (w.heap.size ≤ g_b) → (NE g_b) → (Bx W g_b 88 #[.bool false, .slice none 0 0, .slice none 0 0, .bool false, .slice none 0 0, .slice none 0 0]) → (RV2 W uh2 (x * z) (x * z)) → (RV W uh3 (x * u)) → X 4 #[true, true, true, true, true, true, true, true, true, true, true, false, false, true, false, false] ((((a0.put (some 13) (uh1)).put (some 14) (uh2)).put (some 19) (uh3)).put (some 6) (.pointer (some ⟨g_b, 0, none⟩))) W := by
      intro W g_b uh1 uh2 uh3 F sz_b ne_b Blb h2 h3
      rw [← HX.out, ← HA.out]
      try simp only [LY]
      refine U_two (i := 11) (j := 12) (by kernel_rfl) rfl rfl  (fun K hK => ?_) (fun K hK => ?_) 
      · obtain ⟨hs, Blx, Bly, Blk, hx, hy, hz, hu⟩ := (HP _).1 F
        go_simp
        (with_reducible refine (r_Only _ _ _ h3).mono ?_)
        rintro e W1 ⟨uh4, rfl, h4, hb⟩
        replace F := HM _ _ F hb
        replace Blb := Blb.mono hb
        replace h2 := h2.mono hb
        replace h3 := h3.mono hb
        clear hb hs Blx Bly Blk hx hy hz hu
        try go_wp2_with fail
        refine hK.out _ _ (HC _ F) (fun hH => ?_)
        clear hK K
        try simp only [LY]
        have hkey := key17.out W1 g_b uh1 uh2 uh3 uh4 F sz_b ne_b Blb h2 h4
        rw [← HX.out, ← HA.out] at hkey
        try simp only [LY] at hkey
        exact U_at (by kernel_rfl) (by kernel_rfl) hkey
      · go_simp
        refine alloc_letter ((HP _).1 F).1 (fun W1 hb Bla sz_a => ?_)
        have ne_a := HE _ F
        have m_a_b := Nat.ne_of_gt Blb.lt
        replace F := HM _ _ F hb
        replace Blb := Blb.mono hb
        replace h2 := h2.mono hb
        replace h3 := h3.mono hb
        clear hb
        refine hK.out _ _ (HC _ F) (fun hH => ?_)
        clear hK K
        try simp only [LY]
        have hkey := key18.out W1 W.heap.size g_b uh1 uh2 uh3 F sz_a ne_a Bla sz_b ne_b Blb m_a_b h2 h3
        rw [← HX.out, ← HA.out] at hkey
        try simp only [LY] at hkey
        exact U_at (by kernel_rfl) (by kernel_rfl) hkey
    replace key14 := Lib.hid key14
    have key13 : ∀ (W : World) (g_a : Nat) (uh1 : Value) (uh2 : Value) (uh3 : Value), FP W → (w.heap.size ≤ g_a) → (NE g_a) → (Bx W g_a 88 #[.bool false, .slice none 0 0, .slice none 0 0, .bool false, .slice none 0 0, .slice none 0 0]) → (RV2 W uh2 (x * z) (x * z)) → (RV W uh3 (x * u)) → X 4 #[true, true, true, true, true, true, true, true, true, true, true, false, true, false, false, false] ((((a0.put (some 13) (uh1)).put (some 14) (uh2)).put (some 19) (uh3)).put (some 5) (.pointer (some ⟨g_a, 0, none⟩))) W := by
      intro W g_a uh1 uh2 uh3 F sz_a ne_a Bla h2 h3
      rw [← HX.out, ← HA.out]
      try simp only [LY]
      refine U_two (i := 11) (j := 13) (by kernel_rfl) rfl rfl  (fun K hK => ?_) (fun K hK => ?_) 
      · obtain ⟨hs, Blx, Bly, Blk, hx, hy, hz, hu⟩ := (HP _).1 F
        go_simp
        (with_reducible refine (r_Only _ _ _ h3).mono ?_)
        rintro e W1 ⟨uh4, rfl, h4, hb⟩
        replace F := HM _ _ F hb
        replace Bla := Bla.mono hb
        replace h2 := h2.mono hb
        replace h3 := h3.mono hb
        clear hb hs Blx Bly Blk hx hy hz hu
        try go_wp2_with fail
        refine hK.out _ _ (HC _ F) (fun hH => ?_)
        clear hK K
        try simp only [LY]
        have hkey := key16.out W1 g_a uh1 uh2 uh3 uh4 F sz_a ne_a Bla h2 h4
        rw [← HX.out, ← HA.out] at hkey
        try simp only [LY] at hkey
        exact U_at (by kernel_rfl) (by kernel_rfl) hkey
      · go_simp
        refine alloc_letter ((HP _).1 F).1 (fun W1 hb Blb sz_b => ?_)
        have ne_b := HE _ F
        have m_a_b := Nat.ne_of_lt Bla.lt
        replace F := HM _ _ F hb
        replace Bla := Bla.mono hb
        replace h2 := h2.mono hb
        replace h3 := h3.mono hb
        clear hb
        refine hK.out _ _ (HC _ F) (fun hH => ?_)
        clear hK K
        try simp only [LY]
        have hkey := key18.out W1 g_a W.heap.size uh1 uh2 uh3 F sz_a ne_a Bla sz_b ne_b Blb m_a_b h2 h3
        rw [← HX.out, ← HA.out] at hkey
        try simp only [LY] at hkey
        exact U_at (by kernel_rfl) (by kernel_rfl) hkey
    replace key13 := Lib.hid key13
    have key12 : ∀ (W : World) (uh1 : Value) (uh2 : Value) (uh3 : Value) (uh4 : Value), FP W → (RV2 W uh2 (x * z) (x * z)) → (RV2 W uh4 (x * u) (x * u)) → X 4 #[true, true, true, true, true, true, true, true, true, true, true, true, false, false, false, false] ((((a0.put (some 13) (uh1)).put (some 14) (uh2)).put (some 19) (uh3)).put (some 20) (uh4)) W := by
      intro W uh1 uh2 uh3 uh4 F h2 h4
      rw [← HX.out, ← HA.out]
      try simp only [LY]
      refine U_two (i := 12) (j := 13) (by kernel_rfl) rfl rfl  (fun K hK => ?_) (fun K hK => ?_) 
      · go_simp
        refine alloc_letter ((HP _).1 F).1 (fun W1 hb Bla sz_a => ?_)
        have ne_a := HE _ F
        replace F := HM _ _ F hb
        replace h2 := h2.mono hb
        replace h4 := h4.mono hb
        clear hb
        refine hK.out _ _ (HC _ F) (fun hH => ?_)
        clear hK K
        try simp only [LY]
        have hkey := key16.out W1 W.heap.size uh1 uh2 uh3 uh4 F sz_a ne_a Bla h2 h4
        rw [← HX.out, ← HA.out] at hkey
        try simp only [LY] at hkey
        exact U_at (by kernel_rfl) (by kernel_rfl) hkey
      · go_simp
        refine alloc_letter ((HP _).1 F).1 (fun W1 hb Blb sz_b => ?_)
        have ne_b := HE _ F
        replace F := HM _ _ F hb
        replace h2 := h2.mono hb
        replace h4 := h4.mono hb
        clear hb
        refine hK.out _ _ (HC _ F) (fun hH => ?_)
        clear hK K
        try simp only [LY]
        have hkey := key17.out W1 W.heap.size uh1 uh2 uh3 uh4 F sz_b ne_b Blb h2 h4
        rw [← HX.out, ← HA.out] at hkey
        try simp only [LY] at hkey
        exact U_at (by kernel_rfl) (by kernel_rfl) hkey
    replace key12 := Lib.hid key12
    have key11 : ∀ (W : World) (g_a : Nat) (g_b : Nat) (uh1 : Value), FP W → (w.heap.size ≤ g_a) → (NE g_a) → (Bx W g_a 88 #[.bool false, .slice none 0 0, .slice none 0 0, .bool false, .slice none 0 0, .slice none 0 0]) → (w.heap.size ≤ g_b) → (NE g_b) → (Bx W g_b 88 #[.bool false, .slice none 0 0, .slice none 0 0, .bool false, .slice none 0 0, .slice none 0 0]) → (g_a ≠ g_b) → (RV W uh1 (x * z)) → X 5 #[true, true, true, true, true, false, true, true, true, true, false, false, true, true, false, false] (((a0.put (some 13) (uh1)).put (some 5) (.pointer (some ⟨g_a, 0, none⟩))).put (some 6) (.pointer (some ⟨g_b, 0, none⟩))) W := by
      intro W g_a g_b uh1 F sz_a ne_a Bla sz_b ne_b Blb m_a_b h1
      rw [← HX.out, ← HA.out]
      try simp only [LY]
      refine U_one (i := 5) (by kernel_rfl) rfl (fun K hK => ?_)
      obtain ⟨hs, Blx, Bly, Blk, hx, hy, hz, hu⟩ := (HP _).1 F
      go_simp
      (with_reducible refine (r_Only _ _ _ h1).mono ?_)
      rintro e W1 ⟨uh2, rfl, h2, hb⟩
      replace F := HM _ _ F hb
      replace Bla := Bla.mono hb
      replace Blb := Blb.mono hb
      replace h1 := h1.mono hb
      clear hb hs Blx Bly Blk hx hy hz hu
      try go_wp2_with fail
      refine hK.out _ _ (HC _ F) (fun hH => ?_)
      clear hK K
      try simp only [LY]
      have hkey := key15.out W1 g_a g_b uh1 uh2 F sz_a ne_a Bla sz_b ne_b Blb m_a_b h2
      rw [← HX.out, ← HA.out] at hkey
      try simp only [LY] at hkey
      exact U_at (by kernel_rfl) (by kernel_rfl) hkey
    replace key11 := Lib.hid key11
    have key10 : ∀ (W : World) (g_b : Nat) (uh1 : Value) (uh2 : Value), FP W → (w.heap.size ≤ g_b) → (NE g_b) → (Bx W g_b 88 #[.bool false, .slice none 0 0, .slice none 0 0, .bool false, .slice none 0 0, .slice none 0 0]) → (RV2 W uh2 (x * z) (x * z)) → X 5 #[true, true, true, true, true, true, true, true, true, true, false, false, false, true, false, false] (((a0.put (some 13) (uh1)).put (some 14) (uh2)).put (some 6) (.pointer (some ⟨g_b, 0, none⟩))) W := by
      intro W g_b uh1 uh2 F sz_b ne_b Blb h2
      rw [← HX.out, ← HA.out]
      try simp only [LY]
      refine U_two (i := 10) (j := 12) (by kernel_rfl) rfl rfl  (fun K hK => ?_) (fun K hK => ?_) 
      · obtain ⟨hs, Blx, Bly, Blk, hx, hy, hz, hu⟩ := (HP _).1 F
        go_simp
        (with_reducible refine (rMul hx hu (SzQ.fit sx) (SzQ.fit su)).mono ?_)
        rintro e W1 ⟨uh3, rfl, h3, hb⟩
        replace F := HM _ _ F hb
        replace Blb := Blb.mono hb
        replace h2 := h2.mono hb
        clear hb hs Blx Bly Blk hx hy hz hu
        try go_wp2_with fail
        refine hK.out _ _ (HC _ F) (fun hH => ?_)
        clear hK K
        try simp only [LY]
        have hkey := key14.out W1 g_b uh1 uh2 uh3 F sz_b ne_b Blb h2 h3
        rw [← HX.out, ← HA.out] at hkey
        try simp only [LY] at hkey
        exact U_at (by kernel_rfl) (by kernel_rfl) hkey
      · go_simp
        refine alloc_letter ((HP _).1 F).1 (fun W1 hb Bla sz_a => ?_)
        have ne_a := HE _ F
        have m_a_b := Nat.ne_of_gt Blb.lt
        replace F := HM _ _ F hb
        replace Blb := Blb.mono hb
        replace h2 := h2.mono hb
        clear hb
        refine hK.out _ _ (HC _ F) (fun hH => ?_)
        clear hK K
        try simp only [LY]
        have hkey := key15.out W1 W.heap.size g_b uh1 uh2 F sz_a ne_a Bla sz_b ne_b Blb m_a_b h2
        rw [← HX.out, ← HA.out] at hkey
        try simp only [LY] at hkey
        exact U_at (by kernel_rfl) (by kernel_rfl) hkey
    replace key10 := Lib.hid key10
    have key9 : ∀ (W : World) (g_a : Nat) (uh1 : Value) (uh2 : Value), FP W → (w.heap.size ≤ g_a) → (NE g_a) → (Bx W g_a 88 #[.bool false, .slice none 0 0, .slice none 0 0, .bool false, .slice none 0 0, .slice none 0 0]) → (RV2 W uh2 (x * z) (x * z)) → X 5 #[true, true, true, true, true, true, true, true, true, true, false, false, true, false, false, false] (((a0.put (some 13) (uh1)).put (some 14) (uh2)).put (some 5) (.pointer (some ⟨g_a, 0, none⟩))) W := by
      intro W g_a uh1 uh2 F sz_a ne_a Bla h2
      rw [← HX.out, ← HA.out]
      try simp only [LY]
      refine U_two (i := 10) (j := 13) (by kernel_rfl) rfl rfl  (fun K hK => ?_) (fun K hK => ?_) 
      · obtain ⟨hs, Blx, Bly, Blk, hx, hy, hz, hu⟩ := (HP _).1 F
        go_simp
        (with_reducible refine (rMul hx hu (SzQ.fit sx) (SzQ.fit su)).mono ?_)
        rintro e W1 ⟨uh3, rfl, h3, hb⟩
        replace F := HM _ _ F hb
        replace Bla := Bla.mono hb
        replace h2 := h2.mono hb
        clear hb hs Blx Bly Blk hx hy hz hu
        try go_wp2_with fail
        refine hK.out _ _ (HC _ F) (fun hH => ?_)
        clear hK K
        try simp only [LY]
        have hkey := key13.out W1 g_a uh1 uh2 uh3 F sz_a ne_a Bla h2 h3
        rw [← HX.out, ← HA.out] at hkey
        try simp only [LY] at hkey
        exact U_at (by kernel_rfl) (by kernel_rfl) hkey
      · go_simp
        refine alloc_letter ((HP _).1 F).1 (fun W1 hb Blb sz_b => ?_)
        have ne_b := HE _ F
        have m_a_b := Nat.ne_of_lt Bla.lt
        replace F := HM _ _ F hb
        replace Bla := Bla.mono hb
        replace h2 := h2.mono hb
        clear hb
        refine hK.out _ _ (HC _ F) (fun hH => ?_)
        clear hK K
        try simp only [LY]
        have hkey := key15.out W1 g_a W.heap.size uh1 uh2 F sz_a ne_a Bla sz_b ne_b Blb m_a_b h2
        rw [← HX.out, ← HA.out] at hkey
        try simp only [LY] at hkey
        exact U_at (by kernel_rfl) (by kernel_rfl) hkey
    replace key9 := Lib.hid key9
    have key8 : ∀ (W : World) (uh1 : Value) (uh2 : Value) (uh3 : Value), FP W → (RV2 W uh2 (x * z) (x * z)) → (RV W uh3 (x * u)) → X 5 #[true, true, true, true, true, true, true, true, true, true, true, false, false, false, false, false] (((a0.put (some 13) (uh1)).put (some 14) (uh2)).put (some 19) (uh3)) W := by
      intro W uh1 uh2 uh3 F h2 h3
      rw [← HX.out, ← HA.out]
      try simp only [LY]
      refine U_three (i := 11) (j := 12) (k := 13) (by kernel_rfl) rfl rfl rfl  (fun K hK => ?_) (fun K hK => ?_) (fun K hK => ?_) 
      · obtain ⟨hs, Blx, Bly, Blk, hx, hy, hz, hu⟩ := (HP _).1 F
        go_simp
        (with_reducible refine (r_Only _ _ _ h3).mono ?_)
        rintro e W1 ⟨uh4, rfl, h4, hb⟩
        replace F := HM _ _ F hb
        replace h2 := h2.mono hb
        replace h3 := h3.mono hb
        clear hb hs Blx Bly Blk hx hy hz hu
        try go_wp2_with fail
        refine hK.out _ _ (HC _ F) (fun hH => ?_)
        clear hK K
        try simp only [LY]
        have hkey := key12.out W1 uh1 uh2 uh3 uh4 F h2 h4
        rw [← HX.out, ← HA.out] at hkey
        try simp only [LY] at hkey
        exact U_at (by kernel_rfl) (by kernel_rfl) hkey
      · go_simp
        refine alloc_letter ((HP _).1 F).1 (fun W1 hb Bla sz_a => ?_)
        have ne_a := HE _ F
        replace F := HM _ _ F hb
        replace h2 := h2.mono hb
        replace h3 := h3.mono hb
        clear hb
        refine hK.out _ _ (HC _ F) (fun hH => ?_)
        clear hK K
        try simp only [LY]
        have hkey := key13.out W1 W.heap.size uh1 uh2 uh3 F sz_a ne_a Bla h2 h3
        rw [← HX.out, ← HA.out] at hkey
        try simp only [LY] at hkey
        exact U_at (by kernel_rfl) (by kernel_rfl) hkey
      · go_simp
        refine alloc_letter ((HP _).1 F).1 (fun W1 hb Blb sz_b => ?_)
        have ne_b := HE _ F
        replace F := HM _ _ F hb
        replace h2 := h2.mono hb
        replace h3 := h3.mono hb
        clear hb
        refine hK.out _ _ (HC _ F) (fun hH => ?_)
        clear hK K
        try simp only [LY]
        have hkey := key14.out W1 W.heap.size uh1 uh2 uh3 F sz_b ne_b Blb h2 h3
        rw [← HX.out, ← HA.out] at hkey
        try simp only [LY] at hkey
        exact U_at (by kernel_rfl) (by kernel_rfl) hkey
    replace key8 := Lib.hid key8
    have key7 : ∀ (W : World) (g_a : Nat) (g_b : Nat), FP W → (w.heap.size ≤ g_a) → (NE g_a) → (Bx W g_a 88 #[.bool false, .slice none 0 0, .slice none 0 0, .bool false, .slice none 0 0, .slice none 0 0]) → (w.heap.size ≤ g_b) → (NE g_b) → (Bx W g_b 88 #[.bool false, .slice none 0 0, .slice none 0 0, .bool false, .slice none 0 0, .slice none 0 0]) → (g_a ≠ g_b) → X 6 #[true, true, true, true, false, false, true, true, true, true, false, false, true, true, false, false] ((a0.put (some 5) (.pointer (some ⟨g_a, 0, none⟩))).put (some 6) (.pointer (some ⟨g_b, 0, none⟩))) W := by
      intro W g_a g_b F sz_a ne_a Bla sz_b ne_b Blb m_a_b
      rw [← HX.out, ← HA.out]
      try simp only [LY]
      refine U_one (i := 4) (by kernel_rfl) rfl (fun K hK => ?_)
      obtain ⟨hs, Blx, Bly, Blk, hx, hy, hz, hu⟩ := (HP _).1 F
      go_simp
      (with_reducible refine (rMul hx hz (SzQ.fit sx) (SzQ.fit sz)).mono ?_)
      rintro e W1 ⟨uh1, rfl, h1, hb⟩
      replace F := HM _ _ F hb
      replace Bla := Bla.mono hb
      replace Blb := Blb.mono hb
      clear hb hs Blx Bly Blk hx hy hz hu
      try go_wp2_with fail
      refine hK.out _ _ (HC _ F) (fun hH => ?_)
      clear hK K
      try simp only [LY]
      have hkey := key11.out W1 g_a g_b uh1 F sz_a ne_a Bla sz_b ne_b Blb m_a_b h1
      rw [← HX.out, ← HA.out] at hkey
      try simp only [LY] at hkey
      exact U_at (by kernel_rfl) (by kernel_rfl) hkey
    replace key7 := Lib.hid key7
    have key6 : ∀ (W : World) (g_b : Nat) (uh1 : Value), FP W → (w.heap.size ≤ g_b) → (NE g_b) → (Bx W g_b 88 #[.bool false, .slice none 0 0, .slice none 0 0, .bool false, .slice none 0 0, .slice none 0 0]) → (RV W uh1 (x * z)) → X 6 #[true, true, true, true, true, false, true, true, true, true, false, false, false, true, false, false] ((a0.put (some 13) (uh1)).put (some 6) (.pointer (some ⟨g_b, 0, none⟩))) W := by
      intro W g_b uh1 F sz_b ne_b Blb h1
      rw [← HX.out, ← HA.out]
      try simp only [LY]
      refine U_two (i := 5) (j := 12) (by kernel_rfl) rfl rfl  (fun K hK => ?_) (fun K hK => ?_) 
      · obtain ⟨hs, Blx, Bly, Blk, hx, hy, hz, hu⟩ := (HP _).1 F
        go_simp
        (with_reducible refine (r_Only _ _ _ h1).mono ?_)
        rintro e W1 ⟨uh2, rfl, h2, hb⟩
        replace F := HM _ _ F hb
        replace Blb := Blb.mono hb
        replace h1 := h1.mono hb
        clear hb hs Blx Bly Blk hx hy hz hu
        try go_wp2_with fail
        refine hK.out _ _ (HC _ F) (fun hH => ?_)
        clear hK K
        try simp only [LY]
        have hkey := key10.out W1 g_b uh1 uh2 F sz_b ne_b Blb h2
        rw [← HX.out, ← HA.out] at hkey
        try simp only [LY] at hkey
        exact U_at (by kernel_rfl) (by kernel_rfl) hkey
      · go_simp
        refine alloc_letter ((HP _).1 F).1 (fun W1 hb Bla sz_a => ?_)
        have ne_a := HE _ F
        have m_a_b := Nat.ne_of_gt Blb.lt
        replace F := HM _ _ F hb
        replace Blb := Blb.mono hb
        replace h1 := h1.mono hb
        clear hb
        refine hK.out _ _ (HC _ F) (fun hH => ?_)
        clear hK K
        try simp only [LY]
        have hkey := key11.out W1 W.heap.size g_b uh1 F sz_a ne_a Bla sz_b ne_b Blb m_a_b h1
        rw [← HX.out, ← HA.out] at hkey
        try simp only [LY] at hkey
        exact U_at (by kernel_rfl) (by kernel_rfl) hkey
    replace key6 := Lib.hid key6
    have key5 : ∀ (W : World) (g_a : Nat) (uh1 : Value), FP W → (w.heap.size ≤ g_a) → (NE g_a) → (Bx W g_a 88 #[.bool false, .slice none 0 0, .slice none 0 0, .bool false, .slice none 0 0, .slice none 0 0]) → (RV W uh1 (x * z)) → X 6 #[true, true, true, true, true, false, true, true, true, true, false, false, true, false, false, false] ((a0.put (some 13) (uh1)).put (some 5) (.pointer (some ⟨g_a, 0, none⟩))) W := by
      intro W g_a uh1 F sz_a ne_a Bla h1
      rw [← HX.out, ← HA.out]
      try simp only [LY]
      refine U_two (i := 5) (j := 13) (by kernel_rfl) rfl rfl  (fun K hK => ?_) (fun K hK => ?_) 
      · obtain ⟨hs, Blx, Bly, Blk, hx, hy, hz, hu⟩ := (HP _).1 F
        go_simp
        (with_reducible refine (r_Only _ _ _ h1).mono ?_)
        rintro e W1 ⟨uh2, rfl, h2, hb⟩
        replace F := HM _ _ F hb
        replace Bla := Bla.mono hb
        replace h1 := h1.mono hb
        clear hb hs Blx Bly Blk hx hy hz hu
        try go_wp2_with fail
        refine hK.out _ _ (HC _ F) (fun hH => ?_)
        clear hK K
        try simp only [LY]
        have hkey := key9.out W1 g_a uh1 uh2 F sz_a ne_a Bla h2
        rw [← HX.out, ← HA.out] at hkey
        try simp only [LY] at hkey
        exact U_at (by kernel_rfl) (by kernel_rfl) hkey
      · go_simp
        refine alloc_letter ((HP _).1 F).1 (fun W1 hb Blb sz_b => ?_)
        have ne_b := HE _ F
        have m_a_b := Nat.ne_of_lt Bla.lt
        replace F := HM _ _ F hb
        replace Bla := Bla.mono hb
        replace h1 := h1.mono hb
        clear hb
        refine hK.out _ _ (HC _ F) (fun hH => ?_)
        clear hK K
        try simp only [LY]
        have hkey := key11.out W1 g_a W.heap.size uh1 F sz_a ne_a Bla sz_b ne_b Blb m_a_b h1
        rw [← HX.out, ← HA.out] at hkey
        try simp only [LY] at hkey
        exact U_at (by kernel_rfl) (by kernel_rfl) hkey
    replace key5 := Lib.hid key5
    have key4 : ∀ (W : World) (uh1 : Value) (uh2 : Value), FP W → (RV2 W uh2 (x * z) (x * z)) → X 6 #[true, true, true, true, true, true, true, true, true, true, false, false, false, false, false, false] ((a0.put (some 13) (uh1)).put (some 14) (uh2)) W := by
      intro W uh1 uh2 F h2
      rw [← HX.out, ← HA.out]
      try simp only [LY]
      refine U_three (i := 10) (j := 12) (k := 13) (by kernel_rfl) rfl rfl rfl  (fun K hK => ?_) (fun K hK => ?_) (fun K hK => ?_) 
      · obtain ⟨hs, Blx, Bly, Blk, hx, hy, hz, hu⟩ := (HP _).1 F
        go_simp
        (with_reducible refine (rMul hx hu (SzQ.fit sx) (SzQ.fit su)).mono ?_)
        rintro e W1 ⟨uh3, rfl, h3, hb⟩
        replace F := HM _ _ F hb
        replace h2 := h2.mono hb
        clear hb hs Blx Bly Blk hx hy hz hu
        try go_wp2_with fail
        refine hK.out _ _ (HC _ F) (fun hH => ?_)
        clear hK K
        try simp only [LY]
        have hkey := key8.out W1 uh1 uh2 uh3 F h2 h3
        rw [← HX.out, ← HA.out] at hkey
        try simp only [LY] at hkey
        exact U_at (by kernel_rfl) (by kernel_rfl) hkey
      · go_simp
        refine alloc_letter ((HP _).1 F).1 (fun W1 hb Bla sz_a => ?_)
        have ne_a := HE _ F
        replace F := HM _ _ F hb
        replace h2 := h2.mono hb
        clear hb
        refine hK.out _ _ (HC _ F) (fun hH => ?_)
        clear hK K
        try simp only [LY]
        have hkey := key9.out W1 W.heap.size uh1 uh2 F sz_a ne_a Bla h2
        rw [← HX.out, ← HA.out] at hkey
        try simp only [LY] at hkey
        exact U_at (by kernel_rfl) (by kernel_rfl) hkey
      · go_simp
        refine alloc_letter ((HP _).1 F).1 (fun W1 hb Blb sz_b => ?_)
        have ne_b := HE _ F
        replace F := HM _ _ F hb
        replace h2 := h2.mono hb
        clear hb
        refine hK.out _ _ (HC _ F) (fun hH => ?_)
        clear hK K
        try simp only [LY]
        have hkey := key10.out W1 W.heap.size uh1 uh2 F sz_b ne_b Blb h2
        rw [← HX.out, ← HA.out] at hkey
        try simp only [LY] at hkey
        exact U_at (by kernel_rfl) (by kernel_rfl) hkey
    replace key4 := Lib.hid key4
    have key3 : ∀ (W : World) (g_b : Nat), FP W → (w.heap.size ≤ g_b) → (NE g_b) → (Bx W g_b 88 #[.bool false, .slice none 0 0, .slice none 0 0, .bool false, .slice none 0 0, .slice none 0 0]) → X 7 #[true, true, true, true, false, false, true, true, true, true, false, false, false, true, false, false] (a0.put (some 6) (.pointer (some ⟨g_b, 0, none⟩))) W := by
      intro W g_b F sz_b ne_b Blb
      rw [← HX.out, ← HA.out]
      try simp only [LY]
      refine U_two (i := 4) (j := 12) (by kernel_rfl) rfl rfl  (fun K hK => ?_) (fun K hK => ?_) 
      · obtain ⟨hs, Blx, Bly, Blk, hx, hy, hz, hu⟩ := (HP _).1 F
        go_simp
        (with_reducible refine (rMul hx hz (SzQ.fit sx) (SzQ.fit sz)).mono ?_)
        rintro e W1 ⟨uh1, rfl, h1, hb⟩
        replace F := HM _ _ F hb
        replace Blb := Blb.mono hb
        clear hb hs Blx Bly Blk hx hy hz hu
        try go_wp2_with fail
        refine hK.out _ _ (HC _ F) (fun hH => ?_)
        clear hK K
        try simp only [LY]
        have hkey := key6.out W1 g_b uh1 F sz_b ne_b Blb h1
        rw [← HX.out, ← HA.out] at hkey
        try simp only [LY] at hkey
        exact U_at (by kernel_rfl) (by kernel_rfl) hkey
      · go_simp
        refine alloc_letter ((HP _).1 F).1 (fun W1 hb Bla sz_a => ?_)
        have ne_a := HE _ F
        have m_a_b := Nat.ne_of_gt Blb.lt
        replace F := HM _ _ F hb
        replace Blb := Blb.mono hb
        clear hb
        refine hK.out _ _ (HC _ F) (fun hH => ?_)
        clear hK K
        try simp only [LY]
        have hkey := key7.out W1 W.heap.size g_b F sz_a ne_a Bla sz_b ne_b Blb m_a_b
        rw [← HX.out, ← HA.out] at hkey
        try simp only [LY] at hkey
        exact U_at (by kernel_rfl) (by kernel_rfl) hkey
    replace key3 := Lib.hid key3
    have key2 : ∀ (W : World) (g_a : Nat), FP W → (w.heap.size ≤ g_a) → (NE g_a) → (Bx W g_a 88 #[.bool false, .slice none 0 0, .slice none 0 0, .bool false, .slice none 0 0, .slice none 0 0]) → X 7 #[true, true, true, true, false, false, true, true, true, true, false, false, true, false, false, false] (a0.put (some 5) (.pointer (some ⟨g_a, 0, none⟩))) W := by
      intro W g_a F sz_a ne_a Bla
      rw [← HX.out, ← HA.out]
      try simp only [LY]
      refine U_two (i := 4) (j := 13) (by kernel_rfl) rfl rfl  (fun K hK => ?_) (fun K hK => ?_) 
      · obtain ⟨hs, Blx, Bly, Blk, hx, hy, hz, hu⟩ := (HP _).1 F
        go_simp
        (with_reducible refine (rMul hx hz (SzQ.fit sx) (SzQ.fit sz)).mono ?_)
        rintro e W1 ⟨uh1, rfl, h1, hb⟩
        replace F := HM _ _ F hb
        replace Bla := Bla.mono hb
        clear hb hs Blx Bly Blk hx hy hz hu
        try go_wp2_with fail
        refine hK.out _ _ (HC _ F) (fun hH => ?_)
        clear hK K
        try simp only [LY]
        have hkey := key5.out W1 g_a uh1 F sz_a ne_a Bla h1
        rw [← HX.out, ← HA.out] at hkey
        try simp only [LY] at hkey
        exact U_at (by kernel_rfl) (by kernel_rfl) hkey
      · go_simp
        refine alloc_letter ((HP _).1 F).1 (fun W1 hb Blb sz_b => ?_)
        have ne_b := HE _ F
        have m_a_b := Nat.ne_of_lt Bla.lt
        replace F := HM _ _ F hb
        replace Bla := Bla.mono hb
        clear hb
        refine hK.out _ _ (HC _ F) (fun hH => ?_)
        clear hK K
        try simp only [LY]
        have hkey := key7.out W1 g_a W.heap.size F sz_a ne_a Bla sz_b ne_b Blb m_a_b
        rw [← HX.out, ← HA.out] at hkey
        try simp only [LY] at hkey
        exact U_at (by kernel_rfl) (by kernel_rfl) hkey
    replace key2 := Lib.hid key2
    have key1 : ∀ (W : World) (uh1 : Value), FP W → (RV W uh1 (x * z)) → X 7 #[true, true, true, true, true, false, true, true, true, true, false, false, false, false, false, false] (a0.put (some 13) (uh1)) W := by
      intro W uh1 F h1
      rw [← HX.out, ← HA.out]
      try simp only [LY]
      refine U_three (i := 5) (j := 12) (k := 13) (by kernel_rfl) rfl rfl rfl  (fun K hK => ?_) (fun K hK => ?_) (fun K hK => ?_) 
      · obtain ⟨hs, Blx, Bly, Blk, hx, hy, hz, hu⟩ := (HP _).1 F
        go_simp
        (with_reducible refine (r_Only _ _ _ h1).mono ?_)
        rintro e W1 ⟨uh2, rfl, h2, hb⟩
        replace F := HM _ _ F hb
        replace h1 := h1.mono hb
        clear hb hs Blx Bly Blk hx hy hz hu
        try go_wp2_with fail
        refine hK.out _ _ (HC _ F) (fun hH => ?_)
        clear hK K
        try simp only [LY]
        have hkey := key4.out W1 uh1 uh2 F h2
        rw [← HX.out, ← HA.out] at hkey
        try simp only [LY] at hkey
        exact U_at (by kernel_rfl) (by kernel_rfl) hkey
      · go_simp
        refine alloc_letter ((HP _).1 F).1 (fun W1 hb Bla sz_a => ?_)
        have ne_a := HE _ F
        replace F := HM _ _ F hb
        replace h1 := h1.mono hb
        clear hb
        refine hK.out _ _ (HC _ F) (fun hH => ?_)
        clear hK K
        try simp only [LY]
        have hkey := key5.out W1 W.heap.size uh1 F sz_a ne_a Bla h1
        rw [← HX.out, ← HA.out] at hkey
        try simp only [LY] at hkey
        exact U_at (by kernel_rfl) (by kernel_rfl) hkey
      · go_simp
        refine alloc_letter ((HP _).1 F).1 (fun W1 hb Blb sz_b => ?_)
        have ne_b := HE _ F
        replace F := HM _ _ F hb
        replace h1 := h1.mono hb
        clear hb
        refine hK.out _ _ (HC _ F) (fun hH => ?_)
        clear hK K
        try simp only [LY]
        have hkey := key6.out W1 W.heap.size uh1 F sz_b ne_b Blb h1
        rw [← HX.out, ← HA.out] at hkey
        try simp only [LY] at hkey
        exact U_at (by kernel_rfl) (by kernel_rfl) hkey
    replace key1 := Lib.hid key1
    have key0 : ∀ (W : World), FP W → X 8 #[true, true, true, true, false, false, true, true, true, true, false, false, false, false, false, false] a0 W := by
      intro W F
      rw [← HX.out, ← HA.out]
      try simp only [LY]
      refine U_three (i := 4) (j := 12) (k := 13) (by kernel_rfl) rfl rfl rfl  (fun K hK => ?_) (fun K hK => ?_) (fun K hK => ?_) 
      · obtain ⟨hs, Blx, Bly, Blk, hx, hy, hz, hu⟩ := (HP _).1 F
        go_simp
        (with_reducible refine (rMul hx hz (SzQ.fit sx) (SzQ.fit sz)).mono ?_)
        rintro e W1 ⟨uh1, rfl, h1, hb⟩
        replace F := HM _ _ F hb
        clear hb hs Blx Bly Blk hx hy hz hu
        try go_wp2_with fail
        refine hK.out _ _ (HC _ F) (fun hH => ?_)
        clear hK K
        try simp only [LY]
        have hkey := key1.out W1 uh1 F h1
        rw [← HX.out, ← HA.out] at hkey
        try simp only [LY] at hkey
        exact U_at (by kernel_rfl) (by kernel_rfl) hkey
      · go_simp
        refine alloc_letter ((HP _).1 F).1 (fun W1 hb Bla sz_a => ?_)
        have ne_a := HE _ F
        replace F := HM _ _ F hb
        clear hb
        refine hK.out _ _ (HC _ F) (fun hH => ?_)
        clear hK K
        try simp only [LY]
        have hkey := key2.out W1 W.heap.size F sz_a ne_a Bla
        rw [← HX.out, ← HA.out] at hkey
        try simp only [LY] at hkey
        exact U_at (by kernel_rfl) (by kernel_rfl) hkey
      · go_simp
        refine alloc_letter ((HP _).1 F).1 (fun W1 hb Blb sz_b => ?_)
        have ne_b := HE _ F
        replace F := HM _ _ F hb
        clear hb
        refine hK.out _ _ (HC _ F) (fun hH => ?_)
        clear hK K
        try simp only [LY]
        have hkey := key3.out W1 W.heap.size F sz_b ne_b Blb
        rw [← HX.out, ← HA.out] at hkey
        try simp only [LY] at hkey
        exact U_at (by kernel_rfl) (by kernel_rfl) hkey
    replace key0 := Lib.hid key0
    rw [← HX.out]
    have hkey := key0.out w2 F
    rw [← HX.out] at hkey
    exact U_at (by kernel_rfl) (by kernel_rfl) hkey
  case rest =>
    clear hs Blx Bly Blk hx hy hz hu
    obtain ⟨ga, gb, sh2a, ah2a, nh2a, ch2a, Ah2a, Nh2a, Ch2a, sh2b, ah2b, nh2b, ch2b, Ah2b, Nh2b, Ch2b, sh4a, ah4a, nh4a, ch4a, Ah4a, Nh4a, Ch4a, sh4b, ah4b, nh4b, ch4b, Ah4b, Nh4b, Ch4b, rfl, rfl, hg_a, ng_a_x, ng_a_y, ng_a_k, hg_b, ng_b_x, ng_b_y, ng_b_k, ng_a_b, Bla, Blb, hs, Blx, Bly, Blk, hx, hy, hz, hu, h2a, h2b, h4a, h4b⟩ := hcut
    go_upto_region 2 with fail
    go_cut [7, 8] (fun kv0 kv1 wz => ∃ gc gd sh6a ah6a nh6a ch6a Ah6a Nh6a Ch6a sh6b ah6b nh6b ch6b Ah6b Nh6b Ch6b sh8a ah8a nh8a ch8a Ah8a Nh8a Ch8a sh8b ah8b nh8b ch8b Ah8b Nh8b Ch8b, kv0 = .pointer (some ⟨gc, 0, none⟩) ∧ kv1 = .pointer (some ⟨gd, 0, none⟩) ∧ w.heap.size ≤ gc ∧ gc ≠ w.heap.size ∧ gc ≠ (w.heap.size + 1) ∧ gc ≠ (w.heap.size + 1 + 1) ∧ gc ≠ ga ∧ gc ≠ gb ∧ w.heap.size ≤ gd ∧ gd ≠ w.heap.size ∧ gd ≠ (w.heap.size + 1) ∧ gd ≠ (w.heap.size + 1 + 1) ∧ gd ≠ ga ∧ gd ≠ gb ∧ gc ≠ gd ∧ Bx wz gc 88 #[.bool sh6a, .slice ah6a nh6a ch6a, .slice Ah6a Nh6a Ch6a, .bool sh6b, .slice ah6b nh6b ch6b, .slice Ah6b Nh6b Ch6b] ∧ Bx wz gd 88 #[.bool sh8a, .slice ah8a nh8a ch8a, .slice Ah8a Nh8a Ch8a, .bool sh8b, .slice ah8b nh8b ch8b, .slice Ah8b Nh8b Ch8b] ∧ Below w.heap.size w wz ∧ Bx wz (w.heap.size) 88 #[.bool shx, .slice ahx nhx chx, .slice Ahx Nhx Chx, .bool shy, .slice ahy nhy chy, .slice Ahy Nhy Chy] ∧ Bx wz (w.heap.size + 1) 88 #[.bool shz, .slice ahz nhz chz, .slice Ahz Nhz Chz, .bool shu, .slice ahu nhu chu, .slice Ahu Nhu Chu] ∧ Bx wz (w.heap.size + 1 + 1) 88 #[.bool false, .slice none 0 0, .slice none 0 0, .bool false, .slice none 0 0, .slice none 0 0] ∧ Bx wz (ga) 88 #[.bool sh2a, .slice ah2a nh2a ch2a, .slice Ah2a Nh2a Ch2a, .bool sh2b, .slice ah2b nh2b ch2b, .slice Ah2b Nh2b Ch2b] ∧ Bx wz (gb) 88 #[.bool sh4a, .slice ah4a nh4a ch4a, .slice Ah4a Nh4a Ch4a, .bool sh4b, .slice ah4b nh4b ch4b, .slice Ah4b Nh4b Ch4b] ∧ RV wz (.agg #[.bool shx, .slice ahx nhx chx, .slice Ahx Nhx Chx]) (x) ∧ RV wz (.agg #[.bool shy, .slice ahy nhy chy, .slice Ahy Nhy Chy]) (y) ∧ RV wz (.agg #[.bool shz, .slice ahz nhz chz, .slice Ahz Nhz Chz]) (z) ∧ RV wz (.agg #[.bool shu, .slice ahu nhu chu, .slice Ahu Nhu Chu]) (u) ∧ RV wz (.agg #[.bool sh2a, .slice ah2a nh2a ch2a, .slice Ah2a Nh2a Ch2a]) (x * z) ∧ RV wz (.agg #[.bool sh2b, .slice ah2b nh2b ch2b, .slice Ah2b Nh2b Ch2b]) (x * z) ∧ RV wz (.agg #[.bool sh4a, .slice ah4a nh4a ch4a, .slice Ah4a Nh4a Ch4a]) (x * u) ∧ RV wz (.agg #[.bool sh4b, .slice ah4b nh4b ch4b, .slice Ah4b Nh4b Ch4b]) (x * u) ∧ RV wz (.agg #[.bool sh6a, .slice ah6a nh6a ch6a, .slice Ah6a Nh6a Ch6a]) (y * z) ∧ RV wz (.agg #[.bool sh6b, .slice ah6b nh6b ch6b, .slice Ah6b Nh6b Ch6b]) (y * z) ∧ RV wz (.agg #[.bool sh8a, .slice ah8a nh8a ch8a, .slice Ah8a Nh8a Ch8a]) (y * u) ∧ RV wz (.agg #[.bool sh8b, .slice ah8b nh8b ch8b, .slice Ah8b Nh8b Ch8b]) (y * u))
    case first =>
      refine U_region (S := fun w' => w'.cell? ⟨w.heap.size, 0, none⟩ = some (.bool shx) ∧ w'.cell? ⟨w.heap.size, 1, none⟩ = some (.slice ahx nhx chx) ∧ w'.cell? ⟨w.heap.size, 2, none⟩ = some (.slice Ahx Nhx Chx) ∧ w'.cell? ⟨w.heap.size, 3, none⟩ = some (.bool shy) ∧ w'.cell? ⟨w.heap.size, 4, none⟩ = some (.slice ahy nhy chy) ∧ w'.cell? ⟨w.heap.size, 5, none⟩ = some (.slice Ahy Nhy Chy) ∧ w'.cell? ⟨w.heap.size + 1, 0, none⟩ = some (.bool shz) ∧ w'.cell? ⟨w.heap.size + 1, 1, none⟩ = some (.slice ahz nhz chz) ∧ w'.cell? ⟨w.heap.size + 1, 2, none⟩ = some (.slice Ahz Nhz Chz) ∧ w'.cell? ⟨w.heap.size + 1, 3, none⟩ = some (.bool shu) ∧ w'.cell? ⟨w.heap.size + 1, 4, none⟩ = some (.slice ahu nhu chu) ∧ w'.cell? ⟨w.heap.size + 1, 5, none⟩ = some (.slice Ahu Nhu Chu)) (by kernel_rfl) 15 ?_
      refine AnyU.abs ?_
      intro w2 hW
      have hb : Below wc.heap.size wc w2 := by rw [hW]; exact bDrew _
      replace hs := bStep hs hb
      replace Blx := Blx.mono hb
      replace Bly := Bly.mono hb
      replace Blk := Blk.mono hb
      replace Bla := Bla.mono hb
      replace Blb := Blb.mono hb
      replace hx := hx.mono hb
      replace hy := hy.mono hb
      replace hz := hz.mono hb
      replace hu := hu.mono hb
      replace h2a := h2a.mono hb
      replace h2b := h2b.mono hb
      replace h4a := h4a.mono hb
      replace h4b := h4b.mono hb
      clear hb hW
      obtain ⟨FP, HP⟩ : ∃ FP : World → Prop, ∀ W, FP W ↔ (Below w.heap.size w W ∧ Bx W (w.heap.size) 88 #[.bool shx, .slice ahx nhx chx, .slice Ahx Nhx Chx, .bool shy, .slice ahy nhy chy, .slice Ahy Nhy Chy] ∧ Bx W (w.heap.size + 1) 88 #[.bool shz, .slice ahz nhz chz, .slice Ahz Nhz Chz, .bool shu, .slice ahu nhu chu, .slice Ahu Nhu Chu] ∧ Bx W (w.heap.size + 1 + 1) 88 #[.bool false, .slice none 0 0, .slice none 0 0, .bool false, .slice none 0 0, .slice none 0 0] ∧ Bx W (ga) 88 #[.bool sh2a, .slice ah2a nh2a ch2a, .slice Ah2a Nh2a Ch2a, .bool sh2b, .slice ah2b nh2b ch2b, .slice Ah2b Nh2b Ch2b] ∧ Bx W (gb) 88 #[.bool sh4a, .slice ah4a nh4a ch4a, .slice Ah4a Nh4a Ch4a, .bool sh4b, .slice ah4b nh4b ch4b, .slice Ah4b Nh4b Ch4b] ∧ RV W (.agg #[.bool shx, .slice ahx nhx chx, .slice Ahx Nhx Chx]) (x) ∧ RV W (.agg #[.bool shy, .slice ahy nhy chy, .slice Ahy Nhy Chy]) (y) ∧ RV W (.agg #[.bool shz, .slice ahz nhz chz, .slice Ahz Nhz Chz]) (z) ∧ RV W (.agg #[.bool shu, .slice ahu nhu chu, .slice Ahu Nhu Chu]) (u) ∧ RV W (.agg #[.bool sh2a, .slice ah2a nh2a ch2a, .slice Ah2a Nh2a Ch2a]) (x * z) ∧ RV W (.agg #[.bool sh2b, .slice ah2b nh2b ch2b, .slice Ah2b Nh2b Ch2b]) (x * z) ∧ RV W (.agg #[.bool sh4a, .slice ah4a nh4a ch4a, .slice Ah4a Nh4a Ch4a]) (x * u) ∧ RV W (.agg #[.bool sh4b, .slice ah4b nh4b ch4b, .slice Ah4b Nh4b Ch4b]) (x * u)) := ⟨_, fun _ => Iff.rfl⟩
      have HM : ∀ W W', FP W → Below W.heap.size W W' → FP W' := by intro W W' h hb; obtain ⟨hs, Blx, Bly, Blk, Bla, Blb, hx, hy, hz, hu, h2a, h2b, h4a, h4b⟩ := (HP _).1 h; exact (HP _).2 ⟨bStep hs hb, Blx.mono hb, Bly.mono hb, Blk.mono hb, Bla.mono hb, Blb.mono hb, hx.mono hb, hy.mono hb, hz.mono hb, hu.mono hb, h2a.mono hb, h2b.mono hb, h4a.mono hb, h4b.mono hb⟩
      have HC : ∀ W, FP W → W.cell? ⟨w.heap.size, 0, none⟩ = some (.bool shx) ∧ W.cell? ⟨w.heap.size, 1, none⟩ = some (.slice ahx nhx chx) ∧ W.cell? ⟨w.heap.size, 2, none⟩ = some (.slice Ahx Nhx Chx) ∧ W.cell? ⟨w.heap.size, 3, none⟩ = some (.bool shy) ∧ W.cell? ⟨w.heap.size, 4, none⟩ = some (.slice ahy nhy chy) ∧ W.cell? ⟨w.heap.size, 5, none⟩ = some (.slice Ahy Nhy Chy) ∧ W.cell? ⟨w.heap.size + 1, 0, none⟩ = some (.bool shz) ∧ W.cell? ⟨w.heap.size + 1, 1, none⟩ = some (.slice ahz nhz chz) ∧ W.cell? ⟨w.heap.size + 1, 2, none⟩ = some (.slice Ahz Nhz Chz) ∧ W.cell? ⟨w.heap.size + 1, 3, none⟩ = some (.bool shu) ∧ W.cell? ⟨w.heap.size + 1, 4, none⟩ = some (.slice ahu nhu chu) ∧ W.cell? ⟨w.heap.size + 1, 5, none⟩ = some (.slice Ahu Nhu Chu) := by intro W h; obtain ⟨hs, Blx, Bly, Blk, Bla, Blb, hx, hy, hz, hu, h2a, h2b, h4a, h4b⟩ := (HP _).1 h; exact ⟨Blx.at 0 rfl, Blx.at 1 rfl, Blx.at 2 rfl, Blx.at 3 rfl, Blx.at 4 rfl, Blx.at 5 rfl, Bly.at 0 rfl, Bly.at 1 rfl, Bly.at 2 rfl, Bly.at 3 rfl, Bly.at 4 rfl, Bly.at 5 rfl⟩
      obtain ⟨NE, HN⟩ : ∃ NE : Nat → Prop, ∀ g, NE g ↔ (w.heap.size ≠ g ∧ (w.heap.size + 1) ≠ g ∧ (w.heap.size + 1 + 1) ≠ g ∧ ga ≠ g ∧ gb ≠ g) := ⟨_, fun _ => Iff.rfl⟩
      have HE : ∀ W, FP W → NE W.heap.size := by intro W h; obtain ⟨hs, Blx, Bly, Blk, Bla, Blb, hx, hy, hz, hu, h2a, h2b, h4a, h4b⟩ := (HP _).1 h; exact (HN _).2 ⟨Nat.ne_of_lt Blx.lt, Nat.ne_of_lt Bly.lt, Nat.ne_of_lt Blk.lt, Nat.ne_of_lt Bla.lt, Nat.ne_of_lt Blb.lt⟩
      have HG : ∀ W W' g, FP W → Gr [g] W W' → KeepD W W' → w.heap.size ≤ g → NE g → FP W' := by intro W W' g h hG hk hg hn; obtain ⟨hs, Blx, Bly, Blk, Bla, Blb, hx, hy, hz, hu, h2a, h2b, h4a, h4b⟩ := (HP _).1 h; obtain ⟨e_x, e_y, e_k, e_a, e_b⟩ := (HN g).1 hn; exact (HP _).2 ⟨hs.trans (hG.below1 hs.size hg), hG.bx Blx (notMem1 e_x), hG.bx Bly (notMem1 e_y), hG.bx Blk (notMem1 e_k), hG.bx Bla (notMem1 e_a), hG.bx Blb (notMem1 e_b), hx.keep hk, hy.keep hk, hz.keep hk, hu.keep hk, h2a.keep hk, h2b.keep hk, h4a.keep hk, h4b.keep hk⟩
      have F : FP w2 := (HP _).2 ⟨hs, Blx, Bly, Blk, Bla, Blb, hx, hy, hz, hu, h2a, h2b, h4a, h4b⟩
      clear hs Blx Bly Blk Bla Blb hx hy hz hu h2a h2b h4a h4b
      have hH := HC _ F
      refine U_takeD (i := 0) (d := 21) (v := ?_) rfl rfl (by kernel_rfl) (by kernel_rfl) (by kernel_rfl) (by kernel_rfl) (fun _ _ _ h => h) (Or.inl ⟨by rfl, ?_⟩) hH ?_
      rotate_left
      · intro w hSw
        try dsimp only at hSw
        go_simp
        try with_reducible rfl
      simp only [LY]
      refine U_takeD (i := 1) (d := 22) (v := ?_) rfl rfl (by kernel_rfl) (by kernel_rfl) (by kernel_rfl) (by kernel_rfl) (fun _ _ _ h => h) (Or.inl ⟨by rfl, ?_⟩) hH ?_
      rotate_left
      · intro w hSw
        try dsimp only at hSw
        go_simp
        try with_reducible rfl
      simp only [LY]
      refine U_takeD (i := 2) (d := 23) (v := ?_) rfl rfl (by kernel_rfl) (by kernel_rfl) (by kernel_rfl) (by kernel_rfl) (fun _ _ _ h => h) (Or.inl ⟨by rfl, ?_⟩) hH ?_
      rotate_left
      · intro w hSw
        try dsimp only at hSw
        go_simp
        try with_reducible rfl
      simp only [LY]
      refine U_takeD (i := 3) (d := 24) (v := ?_) rfl rfl (by kernel_rfl) (by kernel_rfl) (by kernel_rfl) (by kernel_rfl) (fun _ _ _ h => h) (Or.inl ⟨by rfl, ?_⟩) hH ?_
      rotate_left
      · intro w hSw
        try dsimp only at hSw
        go_simp
        try with_reducible rfl
      simp only [LY]
      refine U_takeD (i := 6) (d := 27) (v := ?_) rfl rfl (by kernel_rfl) (by kernel_rfl) (by kernel_rfl) (by kernel_rfl) (fun _ _ _ h => h) (Or.inl ⟨by rfl, ?_⟩) hH ?_
      rotate_left
      · intro w hSw
        try dsimp only at hSw
        go_simp
        try with_reducible rfl
      simp only [LY]
      refine U_takeD (i := 7) (d := 28) (v := ?_) rfl rfl (by kernel_rfl) (by kernel_rfl) (by kernel_rfl) (by kernel_rfl) (fun _ _ _ h => h) (Or.inl ⟨by rfl, ?_⟩) hH ?_
      rotate_left
      · intro w hSw
        try dsimp only at hSw
        go_simp
        try with_reducible rfl
      simp only [LY]
      refine U_takeD (i := 8) (d := 29) (v := ?_) rfl rfl (by kernel_rfl) (by kernel_rfl) (by kernel_rfl) (by kernel_rfl) (fun _ _ _ h => h) (Or.inl ⟨by rfl, ?_⟩) hH ?_
      rotate_left
      · intro w hSw
        try dsimp only at hSw
        go_simp
        try with_reducible rfl
      simp only [LY]
      refine U_takeD (i := 9) (d := 30) (v := ?_) rfl rfl (by kernel_rfl) (by kernel_rfl) (by kernel_rfl) (by kernel_rfl) (fun _ _ _ h => h) (Or.inl ⟨by rfl, ?_⟩) hH ?_
      rotate_left
      · intro w hSw
        try dsimp only at hSw
        go_simp
        try with_reducible rfl
      simp only [LY]
      clear hH
      refine U_letters ?_
      intro X a0 HX HA
      have key19 : ∀ (W : World) (g_c : Nat) (g_d : Nat) (uh5 : Value) (uh6 : Value) (uh7 : Value) (uh8 : Value), FP W → (w.heap.size ≤ g_c) → (NE g_c) → (Bx W g_c 88 #[.bool false, .slice none 0 0, .slice none 0 0, .bool false, .slice none 0 0, .slice none 0 0]) → (w.heap.size ≤ g_d) → (NE g_d) → (Bx W g_d 88 #[.bool false, .slice none 0 0, .slice none 0 0, .bool false, .slice none 0 0, .slice none 0 0]) → (g_c ≠ g_d) → (RV2 W uh6 (y * z) (y * z)) → (RV2 W uh8 (y * u) (y * u)) → X 2 #[true, true, true, true, true, true, true, true, true, true, true, true, true, true, false, false] ((((((a0.put (some 25) (uh5)).put (some 26) (uh6)).put (some 31) (uh7)).put (some 32) (uh8)).put (some 7) (.pointer (some ⟨g_c, 0, none⟩))).put (some 8) (.pointer (some ⟨g_d, 0, none⟩))) W := by
        intro W g_c g_d uh5 uh6 uh7 uh8 F sz_c ne_c Blc sz_d ne_d Bld m_c_d h6 h8
        rw [← HX.out, ← HA.out]
        try simp only [LY]
        obtain ⟨sh6a, ah6a, nh6a, ch6a, Ah6a, Nh6a, Ch6a, sh6b, ah6b, nh6b, ch6b, Ah6b, Nh6b, Ch6b, rfl, h6a, h6b⟩ := h6.shape
        obtain ⟨sh8a, ah8a, nh8a, ch8a, Ah8a, Nh8a, Ch8a, sh8b, ah8b, nh8b, ch8b, Ah8b, Nh8b, Ch8b, rfl, h8a, h8b⟩ := h8.shape
        have cc_0 : W.cell? ⟨g_c, 0, none⟩ = some (.bool false) := Blc.at 0 rfl
        have cc_1 : W.cell? ⟨g_c, 1, none⟩ = some (.slice none 0 0) := Blc.at 1 rfl
        have cc_2 : W.cell? ⟨g_c, 2, none⟩ = some (.slice none 0 0) := Blc.at 2 rfl
        have cc_3 : W.cell? ⟨g_c, 3, none⟩ = some (.bool false) := Blc.at 3 rfl
        have cc_4 : W.cell? ⟨g_c, 4, none⟩ = some (.slice none 0 0) := Blc.at 4 rfl
        have cc_5 : W.cell? ⟨g_c, 5, none⟩ = some (.slice none 0 0) := Blc.at 5 rfl
        have fc := Blc.free
        have Lc : g_c < W.heap.size := Blc.lt
        refine U_one (i := 14) (by kernel_rfl) rfl (fun K hK => ?_)
        go_simp
        generalize hW_ : ((((((W.setCell ⟨g_c, 0, none⟩ (.bool sh6a)).setCell ⟨g_c, 1, none⟩ (.slice ah6a nh6a ch6a)).setCell ⟨g_c, 2, none⟩ (.slice Ah6a Nh6a Ch6a)).setCell ⟨g_c, 3, none⟩ (.bool sh6b)).setCell ⟨g_c, 4, none⟩ (.slice ah6b nh6b ch6b)).setCell ⟨g_c, 5, none⟩ (.slice Ah6b Nh6b Ch6b)) = w3
        have hW := hW_.symm
        clear hW_
        have hG : Gr [g_c] W w3 := by rw [hW]; exact (Gr.refl _ _).set.set.set.set.set.set
        have hk : KeepD W w3 := hG.keep ⟨⟨_, Blc.ty, by decide⟩, True.intro⟩
        replace Blc : Bx w3 (g_c) 88 #[.bool sh6a, .slice ah6a nh6a ch6a, .slice Ah6a Nh6a Ch6a, .bool sh6b, .slice ah6b nh6b ch6b, .slice Ah6b Nh6b Ch6b] := by rw [hW]; exact Blc.set6
        replace F := HG _ _ _ F hG hk sz_c ne_c
        replace Bld := hG.bx Bld (notMem1 (by omega))
        replace h6a := h6a.keep hk
        replace h6b := h6b.keep hk
        replace h8a := h8a.keep hk
        replace h8b := h8b.keep hk
        clear hW hG hk
        refine hK.out _ _ (HC _ F) (fun hH => ?_)
        clear hK K
        try simp only [LY]
        clear hH
        have cd_0 : w3.cell? ⟨g_d, 0, none⟩ = some (.bool false) := Bld.at 0 rfl
        have cd_1 : w3.cell? ⟨g_d, 1, none⟩ = some (.slice none 0 0) := Bld.at 1 rfl
        have cd_2 : w3.cell? ⟨g_d, 2, none⟩ = some (.slice none 0 0) := Bld.at 2 rfl
        have cd_3 : w3.cell? ⟨g_d, 3, none⟩ = some (.bool false) := Bld.at 3 rfl
        have cd_4 : w3.cell? ⟨g_d, 4, none⟩ = some (.slice none 0 0) := Bld.at 4 rfl
        have cd_5 : w3.cell? ⟨g_d, 5, none⟩ = some (.slice none 0 0) := Bld.at 5 rfl
        have fd := Bld.free
        have Ld : g_d < w3.heap.size := Bld.lt
        refine U_last (by kernel_rfl) rfl (by kernel_rfl) (fun K hK => ?_)
        go_simp
        refine hK.out _ _ ?_
        clear hK K
        intro w4 hW
        have hG : Gr [g_d] w3 w4 := by rw [hW]; exact (Gr.refl _ _).set.set.set.set.set.set
        have hk : KeepD w3 w4 := hG.keep ⟨⟨_, Bld.ty, by decide⟩, True.intro⟩
        replace Bld : Bx w4 (g_d) 88 #[.bool sh8a, .slice ah8a nh8a ch8a, .slice Ah8a Nh8a Ch8a, .bool sh8b, .slice ah8b nh8b ch8b, .slice Ah8b Nh8b Ch8b] := by rw [hW]; exact Bld.set6
        replace F := HG _ _ _ F hG hk sz_d ne_d
        replace Blc := hG.bx Blc (notMem1 (by omega))
        replace h6a := h6a.keep hk
        replace h6b := h6b.keep hk
        replace h8a := h8a.keep hk
        replace h8b := h8b.keep hk
        clear hW hG hk
        obtain ⟨hs, Blx, Bly, Blk, Bla, Blb, hx, hy, hz, hu, h2a, h2b, h4a, h4b⟩ := (HP _).1 F
        try simp only [LY]
        obtain ⟨e_x_c, e_y_c, e_k_c, e_a_c, e_b_c⟩ := (HN _).1 ne_c
        obtain ⟨e_x_d, e_y_d, e_k_d, e_a_d, e_b_d⟩ := (HN _).1 ne_d
        clear HX HA HM HP HC HG HN HE
        go_wp2_with fail
        go_meet
        exact ⟨g_c, g_d, _, _, _, _, _, _, _, _, _, _, _, _, _, _, _, _, _, _, _, _, _, _, _, _, _, _, _, _, rfl, rfl, (by first | exact sz_c | omega), (by omega), (by omega), (by omega), (by omega), (by omega), (by first | exact sz_d | omega), (by omega), (by omega), (by omega), (by omega), (by omega), (by omega), Blc, Bld, hs, Blx, Bly, Blk, Bla, Blb, hx, hy, hz, hu, h2a, h2b, h4a, h4b, h6a, h6b, h8a, h8b⟩
      replace key19 := Lib.hid key19
      have key18 : ∀ (W : World) (g_c : Nat) (g_d : Nat) (uh5 : Value) (uh6 : Value) (uh7 : Value), FP W → (w.heap.size ≤ g_c) → (NE g_c) → (Bx W g_c 88 #[.bool false, .slice none 0 0, .slice none 0 0, .bool false, .slice none 0 0, .slice none 0 0]) → (w.heap.size ≤ g_d) → (NE g_d) → (Bx W g_d 88 #[.bool false, .slice none 0 0, .slice none 0 0, .bool false, .slice none 0 0, .slice none 0 0]) → (g_c ≠ g_d) → (RV2 W uh6 (y * z) (y * z)) → (RV W uh7 (y * u)) → X 3 #[true, true, true, true, true, true, true, true, true, true, true, false, true, true, false, false] (((((a0.put (some 25) (uh5)).put (some 26) (uh6)).put (some 31) (uh7)).put (some 7) (.pointer (some ⟨g_c, 0, none⟩))).put (some 8) (.pointer (some ⟨g_d, 0, none⟩))) W := by
        intro W g_c g_d uh5 uh6 uh7 F sz_c ne_c Blc sz_d ne_d Bld m_c_d h6 h7
        rw [← HX.out, ← HA.out]
        try simp only [LY]
        refine U_one (i := 11) (by kernel_rfl) rfl (fun K hK => ?_)
        obtain ⟨hs, Blx, Bly, Blk, Bla, Blb, hx, hy, hz, hu, h2a, h2b, h4a, h4b⟩ := (HP _).1 F
        go_simp
        (with_reducible refine (r_Only _ _ _ h7).mono ?_)
        rintro e W1 ⟨uh8, rfl, h8, hb⟩
        replace F := HM _ _ F hb
        replace Blc := Blc.mono hb
        replace Bld := Bld.mono hb
        replace h6 := h6.mono hb
        replace h7 := h7.mono hb
        clear hb hs Blx Bly Blk Bla Blb hx hy hz hu h2a h2b h4a h4b
        try go_wp2_with fail
        refine hK.out _ _ (HC _ F) (fun hH => ?_)
        clear hK K
        try simp only [LY]
        have hkey := key19.out W1 g_c g_d uh5 uh6 uh7 uh8 F sz_c ne_c Blc sz_d ne_d Bld m_c_d h6 h8
        rw [← HX.out, ← HA.out] at hkey
        try simp only [LY] at hkey
        exact U_at (by kernel_rfl) (by kernel_rfl) hkey
      replace key18 := Lib.hid key18
      have key17 : ∀ (W : World) (g_d : Nat) (uh5 : Value) (uh6 : Value) (uh7 : Value) (uh8 : Value), FP W → (w.heap.size ≤ g_d) → (NE g_d) → (Bx W g_d 88 #[.bool false, .slice none 0 0, .slice none 0 0, .bool false, .slice none 0 0, .slice none 0 0]) → (RV2 W uh6 (y * z) (y * z)) → (RV2 W uh8 (y * u) (y * u)) → X 3 #[true, true, true, true, true, true, true, true, true, true, true, true, false, true, false, false] (((((a0.put (some 25) (uh5)).put (some 26) (uh6)).put (some 31) (uh7)).put (some 32) (uh8)).put (some 8) (.pointer (some ⟨g_d, 0, none⟩))) W := by
        intro W g_d uh5 uh6 uh7 uh8 F sz_d ne_d Bld h6 h8
        rw [← HX.out, ← HA.out]
        try simp only [LY]
        refine U_one (i := 12) (by kernel_rfl) rfl (fun K hK => ?_)
        go_simp
        refine alloc_letter ((HP _).1 F).1 (fun W1 hb Blc sz_c => ?_)
        have ne_c := HE _ F
        have m_c_d := Nat.ne_of_gt Bld.lt
        replace F := HM _ _ F hb
        replace Bld := Bld.mono hb
        replace h6 := h6.mono hb
        replace h8 := h8.mono hb
        clear hb
        refine hK.out _ _ (HC _ F) (fun hH => ?_)
        clear hK K
        try simp only [LY]
        have hkey := key19.out W1 W.heap.size g_d uh5 uh6 uh7 uh8 F sz_c ne_c Blc sz_d ne_d Bld m_c_d h6 h8
        rw [← HX.out, ← HA.out] at hkey
        try simp only [LY] at hkey
        exact U_at (by kernel_rfl) (by kernel_rfl) hkey
      replace key17 := Lib.hid key17
      have key16 : ∀ (W : World) (g_c : Nat) (uh5 : Value) (uh6 : Value) (uh7 : Value) (uh8 : Value), FP W → (w.heap.size ≤ g_c) → (NE g_c) → (Bx W g_c 88 #[.bool false, .slice none 0 0, .slice none 0 0, .bool false, .slice none 0 0, .slice none 0 0]) → (RV2 W uh6 (y * z) (y * z)) → (RV2 W uh8 (y * u) (y * u)) → X 3 #[true, true, true, true, true, true, true, true, true, true, true, true, true, false, false, false] (((((a0.put (some 25) (uh5)).put (some 26) (uh6)).put (some 31) (uh7)).put (some 32) (uh8)).put (some 7) (.pointer (some ⟨g_c, 0, none⟩))) W := by
        intro W g_c uh5 uh6 uh7 uh8 F sz_c ne_c Blc h6 h8
        rw [← HX.out, ← HA.out]
        try simp only [LY]
        refine U_one (i := 13) (by kernel_rfl) rfl (fun K hK => ?_)
        go_simp
        refine alloc_letter ((HP _).1 F).1 (fun W1 hb Bld sz_d => ?_)
        have ne_d := HE _ F
        have m_c_d := Nat.ne_of_lt Blc.lt
        replace F := HM _ _ F hb
        replace Blc := Blc.mono hb
        replace h6 := h6.mono hb
        replace h8 := h8.mono hb
        clear hb
        refine hK.out _ _ (HC _ F) (fun hH => ?_)
        clear hK K
        try simp only [LY]
        have hkey := key19.out W1 g_c W.heap.size uh5 uh6 uh7 uh8 F sz_c ne_c Blc sz_d ne_d Bld m_c_d h6 h8
        rw [← HX.out, ← HA.out] at hkey
        try simp only [LY] at hkey
        exact U_at (by kernel_rfl) (by kernel_rfl) hkey
      replace key16 := Lib.hid key16
      have key15 : ∀ (W : World) (g_c : Nat) (g_d : Nat) (uh5 : Value) (uh6 : Value), FP W → (w.heap.size ≤ g_c) → (NE g_c) → (Bx W g_c 88 #[.bool false, .slice none 0 0, .slice none 0 0, .bool false, .slice none 0 0, .slice none 0 0]) → (w.heap.size ≤ g_d) → (NE g_d) → (Bx W g_d 88 #[.bool false, .slice none 0 0, .slice none 0 0, .bool false, .slice none 0 0, .slice none 0 0]) → (g_c ≠ g_d) → (RV2 W uh6 (y * z) (y * z)) → X 4 #[true, true, true, true, true, true, true, true, true, true, false, false, true, true, false, false] ((((a0.put (some 25) (uh5)).put (some 26) (uh6)).put (some 7) (.pointer (some ⟨g_c, 0, none⟩))).put (some 8) (.pointer (some ⟨g_d, 0, none⟩))) W := by
        intro W g_c g_d uh5 uh6 F sz_c ne_c Blc sz_d ne_d Bld m_c_d h6
        rw [← HX.out, ← HA.out]
        try simp only [LY]
        refine U_one (i := 10) (by kernel_rfl) rfl (fun K hK => ?_)
        obtain ⟨hs, Blx, Bly, Blk, Bla, Blb, hx, hy, hz, hu, h2a, h2b, h4a, h4b⟩ := (HP _).1 F
        go_simp
        (with_reducible refine (rMul hy hu (SzQ.fit sy) (SzQ.fit su)).mono ?_)
        rintro e W1 ⟨uh7, rfl, h7, hb⟩
        replace F := HM _ _ F hb
        replace Blc := Blc.mono hb
        replace Bld := Bld.mono hb
        replace h6 := h6.mono hb
        clear hb hs Blx Bly Blk Bla Blb hx hy hz hu h2a h2b h4a h4b
        try go_wp2_with fail
        refine hK.out _ _ (HC _ F) (fun hH => ?_)
        clear hK K
        try simp only [LY]
        have hkey := key18.out W1 g_c g_d uh5 uh6 uh7 F sz_c ne_c Blc sz_d ne_d Bld m_c_d h6 h7
        rw [← HX.out, ← HA.out] at hkey
        try simp only [LY] at hkey
        exact U_at (by kernel_rfl) (by kernel_rfl) hkey
      replace key15 := Lib.hid key15
      have key14 : ∀ (W : World) (g_d : Nat) (uh5 : Value) (uh6 : Value) (uh7 : Value), FP W → (w.heap.size ≤ g_d) → (NE g_d) → (Bx W g_d 88 #[.bool false, .slice none 0 0, .slice none 0 0, .bool false, .slice none 0 0, .slice none 0 0]) → (RV2 W uh6 (y * z) (y * z)) → (RV W uh7 (y * u)) → X 4 #[true, true, true, true, true, true, true, true, true, true, true, false, false, true, false, false] ((((a0.put (some 25) (uh5)).put (some 26) (uh6)).put (some 31) (uh7)).put (some 8) (.pointer (some ⟨g_d, 0, none⟩))) W := by
        intro W g_d uh5 uh6 uh7 F sz_d ne_d Bld h6 h7
        rw [← HX.out, ← HA.out]
        try simp only [LY]
        refine U_two (i := 11) (j := 12) (by kernel_rfl) rfl rfl  (fun K hK => ?_) (fun K hK => ?_) 
        · obtain ⟨hs, Blx, Bly, Blk, Bla, Blb, hx, hy, hz, hu, h2a, h2b, h4a, h4b⟩ := (HP _).1 F
          go_simp
          (with_reducible refine (r_Only _ _ _ h7).mono ?_)
          rintro e W1 ⟨uh8, rfl, h8, hb⟩
          replace F := HM _ _ F hb
          replace Bld := Bld.mono hb
          replace h6 := h6.mono hb
          replace h7 := h7.mono hb
          clear hb hs Blx Bly Blk Bla Blb hx hy hz hu h2a h2b h4a h4b
          try go_wp2_with fail
          refine hK.out _ _ (HC _ F) (fun hH => ?_)
          clear hK K
          try simp only [LY]
          have hkey := key17.out W1 g_d uh5 uh6 uh7 uh8 F sz_d ne_d Bld h6 h8
          rw [← HX.out, ← HA.out] at hkey
          try simp only [LY] at hkey
          exact U_at (by kernel_rfl) (by kernel_rfl) hkey
        · go_simp
          refine alloc_letter ((HP _).1 F).1 (fun W1 hb Blc sz_c => ?_)
          have ne_c := HE _ F
          have m_c_d := Nat.ne_of_gt Bld.lt
          replace F := HM _ _ F hb
          replace Bld := Bld.mono hb
          replace h6 := h6.mono hb
          replace h7 := h7.mono hb
          clear hb
          refine hK.out _ _ (HC _ F) (fun hH => ?_)
          clear hK K
          try simp only [LY]
          have hkey := key18.out W1 W.heap.size g_d uh5 uh6 uh7 F sz_c ne_c Blc sz_d ne_d Bld m_c_d h6 h7
          rw [← HX.out, ← HA.out] at hkey
          try simp only [LY] at hkey
          exact U_at (by kernel_rfl) (by kernel_rfl) hkey
      replace key14 := Lib.hid key14
      have key13 : ∀ (W : World) (g_c : Nat) (uh5 : Value) (uh6 : Value) (uh7 : Value), FP W → (w.heap.size ≤ g_c) → (NE g_c) → (Bx W g_c 88 #[.bool false, .slice none 0 0, .slice none 0 0, .bool false, .slice none 0 0, .slice none 0 0]) → (RV2 W uh6 (y * z) (y * z)) → (RV W uh7 (y * u)) → X 4 #[true, true, true, true, true, true, true, true, true, true, true, false, true, false, false, false] ((((a0.put (some 25) (uh5)).put (some 26) (uh6)).put (some 31) (uh7)).put (some 7) (.pointer (some ⟨g_c, 0, none⟩))) W := by
        intro W g_c uh5 uh6 uh7 F sz_c ne_c Blc h6 h7
        rw [← HX.out, ← HA.out]
        try simp only [LY]
        refine U_two (i := 11) (j := 13) (by kernel_rfl) rfl rfl  (fun K hK => ?_) (fun K hK => ?_) 
        · obtain ⟨hs, Blx, Bly, Blk, Bla, Blb, hx, hy, hz, hu, h2a, h2b, h4a, h4b⟩ := (HP _).1 F
          go_simp
          (with_reducible refine (r_Only _ _ _ h7).mono ?_)
          rintro e W1 ⟨uh8, rfl, h8, hb⟩
          replace F := HM _ _ F hb
          replace Blc := Blc.mono hb
          replace h6 := h6.mono hb
          replace h7 := h7.mono hb
          clear hb hs Blx Bly Blk Bla Blb hx hy hz hu h2a h2b h4a h4b
          try go_wp2_with fail
          refine hK.out _ _ (HC _ F) (fun hH => ?_)
          clear hK K
          try simp only [LY]
          have hkey := key16.out W1 g_c uh5 uh6 uh7 uh8 F sz_c ne_c Blc h6 h8
          rw [← HX.out, ← HA.out] at hkey
          try simp only [LY] at hkey
          exact U_at (by kernel_rfl) (by kernel_rfl) hkey
        · go_simp
          refine alloc_letter ((HP _).1 F).1 (fun W1 hb Bld sz_d => ?_)
          have ne_d := HE _ F
          have m_c_d := Nat.ne_of_lt Blc.lt
          replace F := HM _ _ F hb
          replace Blc := Blc.mono hb
          replace h6 := h6.mono hb
          replace h7 := h7.mono hb
          clear hb
          refine hK.out _ _ (HC _ F) (fun hH => ?_)
          clear hK K
          try simp only [LY]
          have hkey := key18.out W1 g_c W.heap.size uh5 uh6 uh7 F sz_c ne_c Blc sz_d ne_d Bld m_c_d h6 h7
          rw [← HX.out, ← HA.out] at hkey
          try simp only [LY] at hkey
          exact U_at (by kernel_rfl) (by kernel_rfl) hkey
      replace key13 := Lib.hid key13
      have key12 : ∀ (W : World) (uh5 : Value) (uh6 : Value) (uh7 : Value) (uh8 : Value), FP W → (RV2 W uh6 (y * z) (y * z)) → (RV2 W uh8 (y * u) (y * u)) → X 4 #[true, true, true, true, true, true, true, true, true, true, true, true, false, false, false, false] ((((a0.put (some 25) (uh5)).put (some 26) (uh6)).put (some 31) (uh7)).put (some 32) (uh8)) W := by
        intro W uh5 uh6 uh7 uh8 F h6 h8
        rw [← HX.out, ← HA.out]
        try simp only [LY]
        refine U_two (i := 12) (j := 13) (by kernel_rfl) rfl rfl  (fun K hK => ?_) (fun K hK => ?_) 
        · go_simp
          refine alloc_letter ((HP _).1 F).1 (fun W1 hb Blc sz_c => ?_)
          have ne_c := HE _ F
          replace F := HM _ _ F hb
          replace h6 := h6.mono hb
          replace h8 := h8.mono hb
          clear hb
          refine hK.out _ _ (HC _ F) (fun hH => ?_)
          clear hK K
          try simp only [LY]
          have hkey := key16.out W1 W.heap.size uh5 uh6 uh7 uh8 F sz_c ne_c Blc h6 h8
          rw [← HX.out, ← HA.out] at hkey
          try simp only [LY] at hkey
          exact U_at (by kernel_rfl) (by kernel_rfl) hkey
        · go_simp
          refine alloc_letter ((HP _).1 F).1 (fun W1 hb Bld sz_d => ?_)
          have ne_d := HE _ F
          replace F := HM _ _ F hb
          replace h6 := h6.mono hb
          replace h8 := h8.mono hb
          clear hb
          refine hK.out _ _ (HC _ F) (fun hH => ?_)
          clear hK K
          try simp only [LY]
          have hkey := key17.out W1 W.heap.size uh5 uh6 uh7 uh8 F sz_d ne_d Bld h6 h8
          rw [← HX.out, ← HA.out] at hkey
          try simp only [LY] at hkey
          exact U_at (by kernel_rfl) (by kernel_rfl) hkey
      replace key12 := Lib.hid key12
      have key11 : ∀ (W : World) (g_c : Nat) (g_d : Nat) (uh5 : Value), FP W → (w.heap.size ≤ g_c) → (NE g_c) → (Bx W g_c 88 #[.bool false, .slice none 0 0, .slice none 0 0, .bool false, .slice none 0 0, .slice none 0 0]) → (w.heap.size ≤ g_d) → (NE g_d) → (Bx W g_d 88 #[.bool false, .slice none 0 0, .slice none 0 0, .bool false, .slice none 0 0, .slice none 0 0]) → (g_c ≠ g_d) → (RV W uh5 (y * z)) → X 5 #[true, true, true, true, true, false, true, true, true, true, false, false, true, true, false, false] (((a0.put (some 25) (uh5)).put (some 7) (.pointer (some ⟨g_c, 0, none⟩))).put (some 8) (.pointer (some ⟨g_d, 0, none⟩))) W := by
        intro W g_c g_d uh5 F sz_c ne_c Blc sz_d ne_d Bld m_c_d h5
        rw [← HX.out, ← HA.out]
        try simp only [LY]
        refine U_one (i := 5) (by kernel_rfl) rfl (fun K hK => ?_)
        obtain ⟨hs, Blx, Bly, Blk, Bla, Blb, hx, hy, hz, hu, h2a, h2b, h4a, h4b⟩ := (HP _).1 F
        go_simp
        (with_reducible refine (r_Only _ _ _ h5).mono ?_)
        rintro e W1 ⟨uh6, rfl, h6, hb⟩
        replace F := HM _ _ F hb
        replace Blc := Blc.mono hb
        replace Bld := Bld.mono hb
        replace h5 := h5.mono hb
        clear hb hs Blx Bly Blk Bla Blb hx hy hz hu h2a h2b h4a h4b
        try go_wp2_with fail
        refine hK.out _ _ (HC _ F) (fun hH => ?_)
        clear hK K
        try simp only [LY]
        have hkey := key15.out W1 g_c g_d uh5 uh6 F sz_c ne_c Blc sz_d ne_d Bld m_c_d h6
        rw [← HX.out, ← HA.out] at hkey
        try simp only [LY] at hkey
        exact U_at (by kernel_rfl) (by kernel_rfl) hkey
      replace key11 := Lib.hid key11
      have key10 : ∀ (W : World) (g_d : Nat) (uh5 : Value) (uh6 : Value), FP W → (w.heap.size ≤ g_d) → (NE g_d) → (Bx W g_d 88 #[.bool false, .slice none 0 0, .slice none 0 0, .bool false, .slice none 0 0, .slice none 0 0]) → (RV2 W uh6 (y * z) (y * z)) → X 5 #[true, true, true, true, true, true, true, true, true, true, false, false, false, true, false, false] (((a0.put (some 25) (uh5)).put (some 26) (uh6)).put (some 8) (.pointer (some ⟨g_d, 0, none⟩))) W := by
        intro W g_d uh5 uh6 F sz_d ne_d Bld h6
        rw [← HX.out, ← HA.out]
        try simp only [LY]
        refine U_two (i := 10) (j := 12) (by kernel_rfl) rfl rfl  (fun K hK => ?_) (fun K hK => ?_) 
        · obtain ⟨hs, Blx, Bly, Blk, Bla, Blb, hx, hy, hz, hu, h2a, h2b, h4a, h4b⟩ := (HP _).1 F
          go_simp
          (with_reducible refine (rMul hy hu (SzQ.fit sy) (SzQ.fit su)).mono ?_)
          rintro e W1 ⟨uh7, rfl, h7, hb⟩
          replace F := HM _ _ F hb
          replace Bld := Bld.mono hb
          replace h6 := h6.mono hb
          clear hb hs Blx Bly Blk Bla Blb hx hy hz hu h2a h2b h4a h4b
          try go_wp2_with fail
          refine hK.out _ _ (HC _ F) (fun hH => ?_)
          clear hK K
          try simp only [LY]
          have hkey := key14.out W1 g_d uh5 uh6 uh7 F sz_d ne_d Bld h6 h7
          rw [← HX.out, ← HA.out] at hkey
          try simp only [LY] at hkey
          exact U_at (by kernel_rfl) (by kernel_rfl) hkey
        · go_simp
          refine alloc_letter ((HP _).1 F).1 (fun W1 hb Blc sz_c => ?_)
          have ne_c := HE _ F
          have m_c_d := Nat.ne_of_gt Bld.lt
          replace F := HM _ _ F hb
          replace Bld := Bld.mono hb
          replace h6 := h6.mono hb
          clear hb
          refine hK.out _ _ (HC _ F) (fun hH => ?_)
          clear hK K
          try simp only [LY]
          have hkey := key15.out W1 W.heap.size g_d uh5 uh6 F sz_c ne_c Blc sz_d ne_d Bld m_c_d h6
          rw [← HX.out, ← HA.out] at hkey
          try simp only [LY] at hkey
          exact U_at (by kernel_rfl) (by kernel_rfl) hkey
      replace key10 := Lib.hid key10
      have key9 : ∀ (W : World) (g_c : Nat) (uh5 : Value) (uh6 : Value), FP W → (w.heap.size ≤ g_c) → (NE g_c) → (Bx W g_c 88 #[.bool false, .slice none 0 0, .slice none 0 0, .bool false, .slice none 0 0, .slice none 0 0]) → (RV2 W uh6 (y * z) (y * z)) → X 5 #[true, true, true, true, true, true, true, true, true, true, false, false, true, false, false, false] (((a0.put (some 25) (uh5)).put (some 26) (uh6)).put (some 7) (.pointer (some ⟨g_c, 0, none⟩))) W := by
        intro W g_c uh5 uh6 F sz_c ne_c Blc h6
        rw [← HX.out, ← HA.out]
        try simp only [LY]
        refine U_two (i := 10) (j := 13) (by kernel_rfl) rfl rfl  (fun K hK => ?_) (fun K hK => ?_) 
        · obtain ⟨hs, Blx, Bly, Blk, Bla, Blb, hx, hy, hz, hu, h2a, h2b, h4a, h4b⟩ := (HP _).1 F
          go_simp
          (with_reducible refine (rMul hy hu (SzQ.fit sy) (SzQ.fit su)).mono ?_)
          rintro e W1 ⟨uh7, rfl, h7, hb⟩
          replace F := HM _ _ F hb
          replace Blc := Blc.mono hb
          replace h6 := h6.mono hb
          clear hb hs Blx Bly Blk Bla Blb hx hy hz hu h2a h2b h4a h4b
          try go_wp2_with fail
          refine hK.out _ _ (HC _ F) (fun hH => ?_)
          clear hK K
          try simp only [LY]
          have hkey := key13.out W1 g_c uh5 uh6 uh7 F sz_c ne_c Blc h6 h7
          rw [← HX.out, ← HA.out] at hkey
          try simp only [LY] at hkey
          exact U_at (by kernel_rfl) (by kernel_rfl) hkey
        · go_simp
          refine alloc_letter ((HP _).1 F).1 (fun W1 hb Bld sz_d => ?_)
          have ne_d := HE _ F
          have m_c_d := Nat.ne_of_lt Blc.lt
          replace F := HM _ _ F hb
          replace Blc := Blc.mono hb
          replace h6 := h6.mono hb
          clear hb
          refine hK.out _ _ (HC _ F) (fun hH => ?_)
          clear hK K
          try simp only [LY]
          have hkey := key15.out W1 g_c W.heap.size uh5 uh6 F sz_c ne_c Blc sz_d ne_d Bld m_c_d h6
          rw [← HX.out, ← HA.out] at hkey
          try simp only [LY] at hkey
          exact U_at (by kernel_rfl) (by kernel_rfl) hkey
      replace key9 := Lib.hid key9
      have key8 : ∀ (W : World) (uh5 : Value) (uh6 : Value) (uh7 : Value), FP W → (RV2 W uh6 (y * z) (y * z)) → (RV W uh7 (y * u)) → X 5 #[true, true, true, true, true, true, true, true, true, true, true, false, false, false, false, false] (((a0.put (some 25) (uh5)).put (some 26) (uh6)).put (some 31) (uh7)) W := by
        intro W uh5 uh6 uh7 F h6 h7
        rw [← HX.out, ← HA.out]
        try simp only [LY]
        refine U_three (i := 11) (j := 12) (k := 13) (by kernel_rfl) rfl rfl rfl  (fun K hK => ?_) (fun K hK => ?_) (fun K hK => ?_) 
        · obtain ⟨hs, Blx, Bly, Blk, Bla, Blb, hx, hy, hz, hu, h2a, h2b, h4a, h4b⟩ := (HP _).1 F
          go_simp
          (with_reducible refine (r_Only _ _ _ h7).mono ?_)
          rintro e W1 ⟨uh8, rfl, h8, hb⟩
          replace F := HM _ _ F hb
          replace h6 := h6.mono hb
          replace h7 := h7.mono hb
          clear hb hs Blx Bly Blk Bla Blb hx hy hz hu h2a h2b h4a h4b
          try go_wp2_with fail
          refine hK.out _ _ (HC _ F) (fun hH => ?_)
          clear hK K
          try simp only [LY]
          have hkey := key12.out W1 uh5 uh6 uh7 uh8 F h6 h8
          rw [← HX.out, ← HA.out] at hkey
          try simp only [LY] at hkey
          exact U_at (by kernel_rfl) (by kernel_rfl) hkey
        · go_simp
          refine alloc_letter ((HP _).1 F).1 (fun W1 hb Blc sz_c => ?_)
          have ne_c := HE _ F
          replace F := HM _ _ F hb
          replace h6 := h6.mono hb
          replace h7 := h7.mono hb
          clear hb
          refine hK.out _ _ (HC _ F) (fun hH => ?_)
          clear hK K
          try simp only [LY]
          have hkey := key13.out W1 W.heap.size uh5 uh6 uh7 F sz_c ne_c Blc h6 h7
          rw [← HX.out, ← HA.out] at hkey
          try simp only [LY] at hkey
          exact U_at (by kernel_rfl) (by kernel_rfl) hkey
        · go_simp
          refine alloc_letter ((HP _).1 F).1 (fun W1 hb Bld sz_d => ?_)
          have ne_d := HE _ F
          replace F := HM _ _ F hb
          replace h6 := h6.mono hb
          replace h7 := h7.mono hb
          clear hb
          refine hK.out _ _ (HC _ F) (fun hH => ?_)
          clear hK K
          try simp only [LY]
          have hkey := key14.out W1 W.heap.size uh5 uh6 uh7 F sz_d ne_d Bld h6 h7
          rw [← HX.out, ← HA.out] at hkey
          try simp only [LY] at hkey
          exact U_at (by kernel_rfl) (by kernel_rfl) hkey
      replace key8 := Lib.hid key8
      have key7 : ∀ (W : World) (g_c : Nat) (g_d : Nat), FP W → (w.heap.size ≤ g_c) → (NE g_c) → (Bx W g_c 88 #[.bool false, .slice none 0 0, .slice none 0 0, .bool false, .slice none 0 0, .slice none 0 0]) → (w.heap.size ≤ g_d) → (NE g_d) → (Bx W g_d 88 #[.bool false, .slice none 0 0, .slice none 0 0, .bool false, .slice none 0 0, .slice none 0 0]) → (g_c ≠ g_d) → X 6 #[true, true, true, true, false, false, true, true, true, true, false, false, true, true, false, false] ((a0.put (some 7) (.pointer (some ⟨g_c, 0, none⟩))).put (some 8) (.pointer (some ⟨g_d, 0, none⟩))) W := by
        intro W g_c g_d F sz_c ne_c Blc sz_d ne_d Bld m_c_d
        rw [← HX.out, ← HA.out]
        try simp only [LY]
        refine U_one (i := 4) (by kernel_rfl) rfl (fun K hK => ?_)
        obtain ⟨hs, Blx, Bly, Blk, Bla, Blb, hx, hy, hz, hu, h2a, h2b, h4a, h4b⟩ := (HP _).1 F
        go_simp
        (with_reducible refine (rMul hy hz (SzQ.fit sy) (SzQ.fit sz)).mono ?_)
        rintro e W1 ⟨uh5, rfl, h5, hb⟩
        replace F := HM _ _ F hb
        replace Blc := Blc.mono hb
        replace Bld := Bld.mono hb
        clear hb hs Blx Bly Blk Bla Blb hx hy hz hu h2a h2b h4a h4b
        try go_wp2_with fail
        refine hK.out _ _ (HC _ F) (fun hH => ?_)
        clear hK K
        try simp only [LY]
        have hkey := key11.out W1 g_c g_d uh5 F sz_c ne_c Blc sz_d ne_d Bld m_c_d h5
        rw [← HX.out, ← HA.out] at hkey
        try simp only [LY] at hkey
        exact U_at (by kernel_rfl) (by kernel_rfl) hkey
      replace key7 := Lib.hid key7
      have key6 : ∀ (W : World) (g_d : Nat) (uh5 : Value), FP W → (w.heap.size ≤ g_d) → (NE g_d) → (Bx W g_d 88 #[.bool false, .slice none 0 0, .slice none 0 0, .bool false, .slice none 0 0, .slice none 0 0]) → (RV W uh5 (y * z)) → X 6 #[true, true, true, true, true, false, true, true, true, true, false, false, false, true, false, false] ((a0.put (some 25) (uh5)).put (some 8) (.pointer (some ⟨g_d, 0, none⟩))) W := by
        intro W g_d uh5 F sz_d ne_d Bld h5
        rw [← HX.out, ← HA.out]
        try simp only [LY]
        refine U_two (i := 5) (j := 12) (by kernel_rfl) rfl rfl  (fun K hK => ?_) (fun K hK => ?_) 
        · obtain ⟨hs, Blx, Bly, Blk, Bla, Blb, hx, hy, hz, hu, h2a, h2b, h4a, h4b⟩ := (HP _).1 F
          go_simp
          (with_reducible refine (r_Only _ _ _ h5).mono ?_)
          rintro e W1 ⟨uh6, rfl, h6, hb⟩
          replace F := HM _ _ F hb
          replace Bld := Bld.mono hb
          replace h5 := h5.mono hb
          clear hb hs Blx Bly Blk Bla Blb hx hy hz hu h2a h2b h4a h4b
          try go_wp2_with fail
          refine hK.out _ _ (HC _ F) (fun hH => ?_)
          clear hK K
          try simp only [LY]
          have hkey := key10.out W1 g_d uh5 uh6 F sz_d ne_d Bld h6
          rw [← HX.out, ← HA.out] at hkey
          try simp only [LY] at hkey
          exact U_at (by kernel_rfl) (by kernel_rfl) hkey
        · go_simp
          refine alloc_letter ((HP _).1 F).1 (fun W1 hb Blc sz_c => ?_)
          have ne_c := HE _ F
          have m_c_d := Nat.ne_of_gt Bld.lt
          replace F := HM _ _ F hb
          replace Bld := Bld.mono hb
          replace h5 := h5.mono hb
          clear hb
          refine hK.out _ _ (HC _ F) (fun hH => ?_)
          clear hK K
          try simp only [LY]
          have hkey := key11.out W1 W.heap.size g_d uh5 F sz_c ne_c Blc sz_d ne_d Bld m_c_d h5
          rw [← HX.out, ← HA.out] at hkey
          try simp only [LY] at hkey
          exact U_at (by kernel_rfl) (by kernel_rfl) hkey
      replace key6 := Lib.hid key6
      have key5 : ∀ (W : World) (g_c : Nat) (uh5 : Value), FP W → (w.heap.size ≤ g_c) → (NE g_c) → (Bx W g_c 88 #[.bool false, .slice none 0 0, .slice none 0 0, .bool false, .slice none 0 0, .slice none 0 0]) → (RV W uh5 (y * z)) → X 6 #[true, true, true, true, true, false, true, true, true, true, false, false, true, false, false, false] ((a0.put (some 25) (uh5)).put (some 7) (.pointer (some ⟨g_c, 0, none⟩))) W := by
        intro W g_c uh5 F sz_c ne_c Blc h5
        rw [← HX.out, ← HA.out]
        try simp only [LY]
        refine U_two (i := 5) (j := 13) (by kernel_rfl) rfl rfl  (fun K hK => ?_) (fun K hK => ?_) 
        · obtain ⟨hs, Blx, Bly, Blk, Bla, Blb, hx, hy, hz, hu, h2a, h2b, h4a, h4b⟩ := (HP _).1 F
          go_simp
          (with_reducible refine (r_Only _ _ _ h5).mono ?_)
          rintro e W1 ⟨uh6, rfl, h6, hb⟩
          replace F := HM _ _ F hb
          replace Blc := Blc.mono hb
          replace h5 := h5.mono hb
          clear hb hs Blx Bly Blk Bla Blb hx hy hz hu h2a h2b h4a h4b
          try go_wp2_with fail
          refine hK.out _ _ (HC _ F) (fun hH => ?_)
          clear hK K
          try simp only [LY]
          have hkey := key9.out W1 g_c uh5 uh6 F sz_c ne_c Blc h6
          rw [← HX.out, ← HA.out] at hkey
          try simp only [LY] at hkey
          exact U_at (by kernel_rfl) (by kernel_rfl) hkey
        · go_simp
          refine alloc_letter ((HP _).1 F).1 (fun W1 hb Bld sz_d => ?_)
          have ne_d := HE _ F
          have m_c_d := Nat.ne_of_lt Blc.lt
          replace F := HM _ _ F hb
          replace Blc := Blc.mono hb
          replace h5 := h5.mono hb
          clear hb
          refine hK.out _ _ (HC _ F) (fun hH => ?_)
          clear hK K
          try simp only [LY]
          have hkey := key11.out W1 g_c W.heap.size uh5 F sz_c ne_c Blc sz_d ne_d Bld m_c_d h5
          rw [← HX.out, ← HA.out] at hkey
          try simp only [LY] at hkey
          exact U_at (by kernel_rfl) (by kernel_rfl) hkey
      replace key5 := Lib.hid key5
      have key4 : ∀ (W : World) (uh5 : Value) (uh6 : Value), FP W → (RV2 W uh6 (y * z) (y * z)) → X 6 #[true, true, true, true, true, true, true, true, true, true, false, false, false, false, false, false] ((a0.put (some 25) (uh5)).put (some 26) (uh6)) W := by
        intro W uh5 uh6 F h6
        rw [← HX.out, ← HA.out]
        try simp only [LY]
        refine U_three (i := 10) (j := 12) (k := 13) (by kernel_rfl) rfl rfl rfl  (fun K hK => ?_) (fun K hK => ?_) (fun K hK => ?_) 
        · obtain ⟨hs, Blx, Bly, Blk, Bla, Blb, hx, hy, hz, hu, h2a, h2b, h4a, h4b⟩ := (HP _).1 F
          go_simp
          (with_reducible refine (rMul hy hu (SzQ.fit sy) (SzQ.fit su)).mono ?_)
          rintro e W1 ⟨uh7, rfl, h7, hb⟩
          replace F := HM _ _ F hb
          replace h6 := h6.mono hb
          clear hb hs Blx Bly Blk Bla Blb hx hy hz hu h2a h2b h4a h4b
          try go_wp2_with fail
          refine hK.out _ _ (HC _ F) (fun hH => ?_)
          clear hK K
          try simp only [LY]
          have hkey := key8.out W1 uh5 uh6 uh7 F h6 h7
          rw [← HX.out, ← HA.out] at hkey
          try simp only [LY] at hkey
          exact U_at (by kernel_rfl) (by kernel_rfl) hkey
        · go_simp
          refine alloc_letter ((HP _).1 F).1 (fun W1 hb Blc sz_c => ?_)
          have ne_c := HE _ F
          replace F := HM _ _ F hb
          replace h6 := h6.mono hb
          clear hb
          refine hK.out _ _ (HC _ F) (fun hH => ?_)
          clear hK K
          try simp only [LY]
          have hkey := key9.out W1 W.heap.size uh5 uh6 F sz_c ne_c Blc h6
          rw [← HX.out, ← HA.out] at hkey
          try simp only [LY] at hkey
          exact U_at (by kernel_rfl) (by kernel_rfl) hkey
        · go_simp
          refine alloc_letter ((HP _).1 F).1 (fun W1 hb Bld sz_d => ?_)
          have ne_d := HE _ F
          replace F := HM _ _ F hb
          replace h6 := h6.mono hb
          clear hb
          refine hK.out _ _ (HC _ F) (fun hH => ?_)
          clear hK K
          try simp only [LY]
          have hkey := key10.out W1 W.heap.size uh5 uh6 F sz_d ne_d Bld h6
          rw [← HX.out, ← HA.out] at hkey
          try simp only [LY] at hkey
          exact U_at (by kernel_rfl) (by kernel_rfl) hkey
      replace key4 := Lib.hid key4
      have key3 : ∀ (W : World) (g_d : Nat), FP W → (w.heap.size ≤ g_d) → (NE g_d) → (Bx W g_d 88 #[.bool false, .slice none 0 0, .slice none 0 0, .bool false, .slice none 0 0, .slice none 0 0]) → X 7 #[true, true, true, true, false, false, true, true, true, true, false, false, false, true, false, false] (a0.put (some 8) (.pointer (some ⟨g_d, 0, none⟩))) W := by
        intro W g_d F sz_d ne_d Bld
        rw [← HX.out, ← HA.out]
        try simp only [LY]
        refine U_two (i := 4) (j := 12) (by kernel_rfl) rfl rfl  (fun K hK => ?_) (fun K hK => ?_) 
        · obtain ⟨hs, Blx, Bly, Blk, Bla, Blb, hx, hy, hz, hu, h2a, h2b, h4a, h4b⟩ := (HP _).1 F
          go_simp
          (with_reducible refine (rMul hy hz (SzQ.fit sy) (SzQ.fit sz)).mono ?_)
          rintro e W1 ⟨uh5, rfl, h5, hb⟩
          replace F := HM _ _ F hb
          replace Bld := Bld.mono hb
          clear hb hs Blx Bly Blk Bla Blb hx hy hz hu h2a h2b h4a h4b
          try go_wp2_with fail
          refine hK.out _ _ (HC _ F) (fun hH => ?_)
          clear hK K
          try simp only [LY]
          have hkey := key6.out W1 g_d uh5 F sz_d ne_d Bld h5
          rw [← HX.out, ← HA.out] at hkey
          try simp only [LY] at hkey
          exact U_at (by kernel_rfl) (by kernel_rfl) hkey
        · go_simp
          refine alloc_letter ((HP _).1 F).1 (fun W1 hb Blc sz_c => ?_)
          have ne_c := HE _ F
          have m_c_d := Nat.ne_of_gt Bld.lt
          replace F := HM _ _ F hb
          replace Bld := Bld.mono hb
          clear hb
          refine hK.out _ _ (HC _ F) (fun hH => ?_)
          clear hK K
          try simp only [LY]
          have hkey := key7.out W1 W.heap.size g_d F sz_c ne_c Blc sz_d ne_d Bld m_c_d
          rw [← HX.out, ← HA.out] at hkey
          try simp only [LY] at hkey
          exact U_at (by kernel_rfl) (by kernel_rfl) hkey
      replace key3 := Lib.hid key3
      have key2 : ∀ (W : World) (g_c : Nat), FP W → (w.heap.size ≤ g_c) → (NE g_c) → (Bx W g_c 88 #[.bool false, .slice none 0 0, .slice none 0 0, .bool false, .slice none 0 0, .slice none 0 0]) → X 7 #[true, true, true, true, false, false, true, true, true, true, false, false, true, false, false, false] (a0.put (some 7) (.pointer (some ⟨g_c, 0, none⟩))) W := by
        intro W g_c F sz_c ne_c Blc
        rw [← HX.out, ← HA.out]
        try simp only [LY]
        refine U_two (i := 4) (j := 13) (by kernel_rfl) rfl rfl  (fun K hK => ?_) (fun K hK => ?_) 
        · obtain ⟨hs, Blx, Bly, Blk, Bla, Blb, hx, hy, hz, hu, h2a, h2b, h4a, h4b⟩ := (HP _).1 F
          go_simp
          (with_reducible refine (rMul hy hz (SzQ.fit sy) (SzQ.fit sz)).mono ?_)
          rintro e W1 ⟨uh5, rfl, h5, hb⟩
          replace F := HM _ _ F hb
          replace Blc := Blc.mono hb
          clear hb hs Blx Bly Blk Bla Blb hx hy hz hu h2a h2b h4a h4b
          try go_wp2_with fail
          refine hK.out _ _ (HC _ F) (fun hH => ?_)
          clear hK K
          try simp only [LY]
          have hkey := key5.out W1 g_c uh5 F sz_c ne_c Blc h5
          rw [← HX.out, ← HA.out] at hkey
          try simp only [LY] at hkey
          exact U_at (by kernel_rfl) (by kernel_rfl) hkey
        · go_simp
          refine alloc_letter ((HP _).1 F).1 (fun W1 hb Bld sz_d => ?_)
          have ne_d := HE _ F
          have m_c_d := Nat.ne_of_lt Blc.lt
          replace F := HM _ _ F hb
          replace Blc := Blc.mono hb
          clear hb
          refine hK.out _ _ (HC _ F) (fun hH => ?_)
          clear hK K
          try simp only [LY]
          have hkey := key7.out W1 g_c W.heap.size F sz_c ne_c Blc sz_d ne_d Bld m_c_d
          rw [← HX.out, ← HA.out] at hkey
          try simp only [LY] at hkey
          exact U_at (by kernel_rfl) (by kernel_rfl) hkey
      replace key2 := Lib.hid key2
      have key1 : ∀ (W : World) (uh5 : Value), FP W → (RV W uh5 (y * z)) → X 7 #[true, true, true, true, true, false, true, true, true, true, false, false, false, false, false, false] (a0.put (some 25) (uh5)) W := by
        intro W uh5 F h5
        rw [← HX.out, ← HA.out]
        try simp only [LY]
        refine U_three (i := 5) (j := 12) (k := 13) (by kernel_rfl) rfl rfl rfl  (fun K hK => ?_) (fun K hK => ?_) (fun K hK => ?_) 
        · obtain ⟨hs, Blx, Bly, Blk, Bla, Blb, hx, hy, hz, hu, h2a, h2b, h4a, h4b⟩ := (HP _).1 F
          go_simp
          (with_reducible refine (r_Only _ _ _ h5).mono ?_)
          rintro e W1 ⟨uh6, rfl, h6, hb⟩
          replace F := HM _ _ F hb
          replace h5 := h5.mono hb
          clear hb hs Blx Bly Blk Bla Blb hx hy hz hu h2a h2b h4a h4b
          try go_wp2_with fail
          refine hK.out _ _ (HC _ F) (fun hH => ?_)
          clear hK K
          try simp only [LY]
          have hkey := key4.out W1 uh5 uh6 F h6
          rw [← HX.out, ← HA.out] at hkey
          try simp only [LY] at hkey
          exact U_at (by kernel_rfl) (by kernel_rfl) hkey
        · go_simp
          refine alloc_letter ((HP _).1 F).1 (fun W1 hb Blc sz_c => ?_)
          have ne_c := HE _ F
          replace F := HM _ _ F hb
          replace h5 := h5.mono hb
          clear hb
          refine hK.out _ _ (HC _ F) (fun hH => ?_)
          clear hK K
          try simp only [LY]
          have hkey := key5.out W1 W.heap.size uh5 F sz_c ne_c Blc h5
          rw [← HX.out, ← HA.out] at hkey
          try simp only [LY] at hkey
          exact U_at (by kernel_rfl) (by kernel_rfl) hkey
        · go_simp
          refine alloc_letter ((HP _).1 F).1 (fun W1 hb Bld sz_d => ?_)
          have ne_d := HE _ F
          replace F := HM _ _ F hb
          replace h5 := h5.mono hb
          clear hb
          refine hK.out _ _ (HC _ F) (fun hH => ?_)
          clear hK K
          try simp only [LY]
          have hkey := key6.out W1 W.heap.size uh5 F sz_d ne_d Bld h5
          rw [← HX.out, ← HA.out] at hkey
          try simp only [LY] at hkey
          exact U_at (by kernel_rfl) (by kernel_rfl) hkey
      replace key1 := Lib.hid key1
      have key0 : ∀ (W : World), FP W → X 8 #[true, true, true, true, false, false, true, true, true, true, false, false, false, false, false, false] a0 W := by
        intro W F
        rw [← HX.out, ← HA.out]
        try simp only [LY]
        refine U_three (i := 4) (j := 12) (k := 13) (by kernel_rfl) rfl rfl rfl  (fun K hK => ?_) (fun K hK => ?_) (fun K hK => ?_) 
        · obtain ⟨hs, Blx, Bly, Blk, Bla, Blb, hx, hy, hz, hu, h2a, h2b, h4a, h4b⟩ := (HP _).1 F
          go_simp
          (with_reducible refine (rMul hy hz (SzQ.fit sy) (SzQ.fit sz)).mono ?_)
          rintro e W1 ⟨uh5, rfl, h5, hb⟩
          replace F := HM _ _ F hb
          clear hb hs Blx Bly Blk Bla Blb hx hy hz hu h2a h2b h4a h4b
          try go_wp2_with fail
          refine hK.out _ _ (HC _ F) (fun hH => ?_)
          clear hK K
          try simp only [LY]
          have hkey := key1.out W1 uh5 F h5
          rw [← HX.out, ← HA.out] at hkey
          try simp only [LY] at hkey
          exact U_at (by kernel_rfl) (by kernel_rfl) hkey
        · go_simp
          refine alloc_letter ((HP _).1 F).1 (fun W1 hb Blc sz_c => ?_)
          have ne_c := HE _ F
          replace F := HM _ _ F hb
          clear hb
          refine hK.out _ _ (HC _ F) (fun hH => ?_)
          clear hK K
          try simp only [LY]
          have hkey := key2.out W1 W.heap.size F sz_c ne_c Blc
          rw [← HX.out, ← HA.out] at hkey
          try simp only [LY] at hkey
          exact U_at (by kernel_rfl) (by kernel_rfl) hkey
        · go_simp
          refine alloc_letter ((HP _).1 F).1 (fun W1 hb Bld sz_d => ?_)
          have ne_d := HE _ F
          replace F := HM _ _ F hb
          clear hb
          refine hK.out _ _ (HC _ F) (fun hH => ?_)
          clear hK K
          try simp only [LY]
          have hkey := key3.out W1 W.heap.size F sz_d ne_d Bld
          rw [← HX.out, ← HA.out] at hkey
          try simp only [LY] at hkey
          exact U_at (by kernel_rfl) (by kernel_rfl) hkey
      replace key0 := Lib.hid key0
      rw [← HX.out]
      have hkey := key0.out w2 F
      rw [← HX.out] at hkey
      exact U_at (by kernel_rfl) (by kernel_rfl) hkey
    case rest =>
      clear hs Blx Bly Blk Bla Blb hx hy hz hu h2a h2b h4a h4b
      obtain ⟨gc, gd, sh6a, ah6a, nh6a, ch6a, Ah6a, Nh6a, Ch6a, sh6b, ah6b, nh6b, ch6b, Ah6b, Nh6b, Ch6b, sh8a, ah8a, nh8a, ch8a, Ah8a, Nh8a, Ch8a, sh8b, ah8b, nh8b, ch8b, Ah8b, Nh8b, Ch8b, rfl, rfl, hg_c, ng_c_x, ng_c_y, ng_c_k, ng_c_a, ng_c_b, hg_d, ng_d_x, ng_d_y, ng_d_k, ng_d_a, ng_d_b, ng_c_d, Blc, Bld, hs, Blx, Bly, Blk, Bla, Blb, hx, hy, hz, hu, h2a, h2b, h4a, h4b, h6a, h6b, h8a, h8b⟩ := hcut
      go_upto_region 3 with fail
      refine U_region (S := fun w' => w'.cell? ⟨ga, 0, none⟩ = some (.bool sh2a) ∧ w'.cell? ⟨ga, 1, none⟩ = some (.slice ah2a nh2a ch2a) ∧ w'.cell? ⟨ga, 2, none⟩ = some (.slice Ah2a Nh2a Ch2a) ∧ w'.cell? ⟨ga, 3, none⟩ = some (.bool sh2b) ∧ w'.cell? ⟨ga, 4, none⟩ = some (.slice ah2b nh2b ch2b) ∧ w'.cell? ⟨ga, 5, none⟩ = some (.slice Ah2b Nh2b Ch2b) ∧ w'.cell? ⟨gb, 0, none⟩ = some (.bool sh4a) ∧ w'.cell? ⟨gb, 1, none⟩ = some (.slice ah4a nh4a ch4a) ∧ w'.cell? ⟨gb, 2, none⟩ = some (.slice Ah4a Nh4a Ch4a) ∧ w'.cell? ⟨gb, 3, none⟩ = some (.bool sh4b) ∧ w'.cell? ⟨gb, 4, none⟩ = some (.slice ah4b nh4b ch4b) ∧ w'.cell? ⟨gb, 5, none⟩ = some (.slice Ah4b Nh4b Ch4b) ∧ w'.cell? ⟨gc, 0, none⟩ = some (.bool sh6a) ∧ w'.cell? ⟨gc, 1, none⟩ = some (.slice ah6a nh6a ch6a) ∧ w'.cell? ⟨gc, 2, none⟩ = some (.slice Ah6a Nh6a Ch6a) ∧ w'.cell? ⟨gc, 3, none⟩ = some (.bool sh6b) ∧ w'.cell? ⟨gc, 4, none⟩ = some (.slice ah6b nh6b ch6b) ∧ w'.cell? ⟨gc, 5, none⟩ = some (.slice Ah6b Nh6b Ch6b) ∧ w'.cell? ⟨gd, 0, none⟩ = some (.bool sh8a) ∧ w'.cell? ⟨gd, 1, none⟩ = some (.slice ah8a nh8a ch8a) ∧ w'.cell? ⟨gd, 2, none⟩ = some (.slice Ah8a Nh8a Ch8a) ∧ w'.cell? ⟨gd, 3, none⟩ = some (.bool sh8b) ∧ w'.cell? ⟨gd, 4, none⟩ = some (.slice ah8b nh8b ch8b) ∧ w'.cell? ⟨gd, 5, none⟩ = some (.slice Ah8b Nh8b Ch8b)) (by kernel_rfl) 7 ?_
      refine AnyU.abs ?_
      intro w2 hW
      have hb : Below wc.heap.size wc w2 := by rw [hW]; exact bDrew _
      replace hs := bStep hs hb
      replace Blx := Blx.mono hb
      replace Bly := Bly.mono hb
      replace Blk := Blk.mono hb
      replace Bla := Bla.mono hb
      replace Blb := Blb.mono hb
      replace Blc := Blc.mono hb
      replace Bld := Bld.mono hb
      replace hx := hx.mono hb
      replace hy := hy.mono hb
      replace hz := hz.mono hb
      replace hu := hu.mono hb
      replace h2a := h2a.mono hb
      replace h2b := h2b.mono hb
      replace h4a := h4a.mono hb
      replace h4b := h4b.mono hb
      replace h6a := h6a.mono hb
      replace h6b := h6b.mono hb
      replace h8a := h8a.mono hb
      replace h8b := h8b.mono hb
      clear hb hW
      have ca_0 : w2.cell? ⟨ga, 0, none⟩ = some (.bool sh2a) := Bla.at 0 rfl
      have ca_1 : w2.cell? ⟨ga, 1, none⟩ = some (.slice ah2a nh2a ch2a) := Bla.at 1 rfl
      have ca_2 : w2.cell? ⟨ga, 2, none⟩ = some (.slice Ah2a Nh2a Ch2a) := Bla.at 2 rfl
      have ca_3 : w2.cell? ⟨ga, 3, none⟩ = some (.bool sh2b) := Bla.at 3 rfl
      have ca_4 : w2.cell? ⟨ga, 4, none⟩ = some (.slice ah2b nh2b ch2b) := Bla.at 4 rfl
      have ca_5 : w2.cell? ⟨ga, 5, none⟩ = some (.slice Ah2b Nh2b Ch2b) := Bla.at 5 rfl
      have cb_0 : w2.cell? ⟨gb, 0, none⟩ = some (.bool sh4a) := Blb.at 0 rfl
      have cb_1 : w2.cell? ⟨gb, 1, none⟩ = some (.slice ah4a nh4a ch4a) := Blb.at 1 rfl
      have cb_2 : w2.cell? ⟨gb, 2, none⟩ = some (.slice Ah4a Nh4a Ch4a) := Blb.at 2 rfl
      have cb_3 : w2.cell? ⟨gb, 3, none⟩ = some (.bool sh4b) := Blb.at 3 rfl
      have cb_4 : w2.cell? ⟨gb, 4, none⟩ = some (.slice ah4b nh4b ch4b) := Blb.at 4 rfl
      have cb_5 : w2.cell? ⟨gb, 5, none⟩ = some (.slice Ah4b Nh4b Ch4b) := Blb.at 5 rfl
      have cc_0 : w2.cell? ⟨gc, 0, none⟩ = some (.bool sh6a) := Blc.at 0 rfl
      have cc_1 : w2.cell? ⟨gc, 1, none⟩ = some (.slice ah6a nh6a ch6a) := Blc.at 1 rfl
      have cc_2 : w2.cell? ⟨gc, 2, none⟩ = some (.slice Ah6a Nh6a Ch6a) := Blc.at 2 rfl
      have cc_3 : w2.cell? ⟨gc, 3, none⟩ = some (.bool sh6b) := Blc.at 3 rfl
      have cc_4 : w2.cell? ⟨gc, 4, none⟩ = some (.slice ah6b nh6b ch6b) := Blc.at 4 rfl
      have cc_5 : w2.cell? ⟨gc, 5, none⟩ = some (.slice Ah6b Nh6b Ch6b) := Blc.at 5 rfl
      have cd_0 : w2.cell? ⟨gd, 0, none⟩ = some (.bool sh8a) := Bld.at 0 rfl
      have cd_1 : w2.cell? ⟨gd, 1, none⟩ = some (.slice ah8a nh8a ch8a) := Bld.at 1 rfl
      have cd_2 : w2.cell? ⟨gd, 2, none⟩ = some (.slice Ah8a Nh8a Ch8a) := Bld.at 2 rfl
      have cd_3 : w2.cell? ⟨gd, 3, none⟩ = some (.bool sh8b) := Bld.at 3 rfl
      have cd_4 : w2.cell? ⟨gd, 4, none⟩ = some (.slice ah8b nh8b ch8b) := Bld.at 4 rfl
      have cd_5 : w2.cell? ⟨gd, 5, none⟩ = some (.slice Ah8b Nh8b Ch8b) := Bld.at 5 rfl
      have hH := (show w2.cell? ⟨ga, 0, none⟩ = some (.bool sh2a) ∧ w2.cell? ⟨ga, 1, none⟩ = some (.slice ah2a nh2a ch2a) ∧ w2.cell? ⟨ga, 2, none⟩ = some (.slice Ah2a Nh2a Ch2a) ∧ w2.cell? ⟨ga, 3, none⟩ = some (.bool sh2b) ∧ w2.cell? ⟨ga, 4, none⟩ = some (.slice ah2b nh2b ch2b) ∧ w2.cell? ⟨ga, 5, none⟩ = some (.slice Ah2b Nh2b Ch2b) ∧ w2.cell? ⟨gb, 0, none⟩ = some (.bool sh4a) ∧ w2.cell? ⟨gb, 1, none⟩ = some (.slice ah4a nh4a ch4a) ∧ w2.cell? ⟨gb, 2, none⟩ = some (.slice Ah4a Nh4a Ch4a) ∧ w2.cell? ⟨gb, 3, none⟩ = some (.bool sh4b) ∧ w2.cell? ⟨gb, 4, none⟩ = some (.slice ah4b nh4b ch4b) ∧ w2.cell? ⟨gb, 5, none⟩ = some (.slice Ah4b Nh4b Ch4b) ∧ w2.cell? ⟨gc, 0, none⟩ = some (.bool sh6a) ∧ w2.cell? ⟨gc, 1, none⟩ = some (.slice ah6a nh6a ch6a) ∧ w2.cell? ⟨gc, 2, none⟩ = some (.slice Ah6a Nh6a Ch6a) ∧ w2.cell? ⟨gc, 3, none⟩ = some (.bool sh6b) ∧ w2.cell? ⟨gc, 4, none⟩ = some (.slice ah6b nh6b ch6b) ∧ w2.cell? ⟨gc, 5, none⟩ = some (.slice Ah6b Nh6b Ch6b) ∧ w2.cell? ⟨gd, 0, none⟩ = some (.bool sh8a) ∧ w2.cell? ⟨gd, 1, none⟩ = some (.slice ah8a nh8a ch8a) ∧ w2.cell? ⟨gd, 2, none⟩ = some (.slice Ah8a Nh8a Ch8a) ∧ w2.cell? ⟨gd, 3, none⟩ = some (.bool sh8b) ∧ w2.cell? ⟨gd, 4, none⟩ = some (.slice ah8b nh8b ch8b) ∧ w2.cell? ⟨gd, 5, none⟩ = some (.slice Ah8b Nh8b Ch8b) from ⟨ca_0, ca_1, ca_2, ca_3, ca_4, ca_5, cb_0, cb_1, cb_2, cb_3, cb_4, cb_5, cc_0, cc_1, cc_2, cc_3, cc_4, cc_5, cd_0, cd_1, cd_2, cd_3, cd_4, cd_5⟩)
      refine U_take (i := 0) (v := ?_) rfl (by kernel_rfl) (by kernel_rfl) (by kernel_rfl) (by kernel_rfl) (fun _ _ _ h => h) (Or.inl ⟨by rfl, ?_⟩) hH ?_
      rotate_left
      · intro w hSw
        try dsimp only at hSw
        go_simp
        try with_reducible rfl
      try simp only [Act.put, List.setIfInBounds_toArray, List.set_cons_zero, List.set_cons_succ]
      refine U_take (i := 1) (v := ?_) rfl (by kernel_rfl) (by kernel_rfl) (by kernel_rfl) (by kernel_rfl) (fun _ _ _ h => h) (Or.inl ⟨by rfl, ?_⟩) hH ?_
      rotate_left
      · intro w hSw
        try dsimp only at hSw
        go_simp
        try with_reducible rfl
      try simp only [Act.put, List.setIfInBounds_toArray, List.set_cons_zero, List.set_cons_succ]
      refine U_take (i := 3) (v := ?_) rfl (by kernel_rfl) (by kernel_rfl) (by kernel_rfl) (by kernel_rfl) (fun _ _ _ h => h) (Or.inl ⟨by rfl, ?_⟩) hH ?_
      rotate_left
      · intro w hSw
        try dsimp only at hSw
        go_simp
        try with_reducible rfl
      try simp only [Act.put, List.setIfInBounds_toArray, List.set_cons_zero, List.set_cons_succ]
      refine U_take (i := 4) (v := ?_) rfl (by kernel_rfl) (by kernel_rfl) (by kernel_rfl) (by kernel_rfl) (fun _ _ _ h => h) (Or.inl ⟨by rfl, ?_⟩) hH ?_
      rotate_left
      · intro w hSw
        try dsimp only at hSw
        go_simp
        try with_reducible rfl
      try simp only [Act.put, List.setIfInBounds_toArray, List.set_cons_zero, List.set_cons_succ]
      clear hH
      refine U_one (i := 2) (by kernel_rfl) rfl (fun K hK => ?_)
      go_simp
      (with_reducible refine (r_Hull _ _ _ _ _ _ _ (RV2.mk h2a h2b) (SzQ.mid (SzQ.mul sx sz)) (SzQ.mid (SzQ.mul sx sz)) (RV2.mk h4a h4b) (SzQ.mid (SzQ.mul sx su)) (SzQ.mid (SzQ.mul sx su))).mono ?_)
      rintro e w3 ⟨_, rfl, h9, hb⟩
      obtain ⟨sh9a, ah9a, nh9a, ch9a, Ah9a, Nh9a, Ch9a, sh9b, ah9b, nh9b, ch9b, Ah9b, Nh9b, Ch9b, rfl, h9a, h9b⟩ := h9.shape
      replace hs := bStep hs hb
      replace Blx := Blx.mono hb
      replace Bly := Bly.mono hb
      replace Blk := Blk.mono hb
      replace Bla := Bla.mono hb
      replace Blb := Blb.mono hb
      replace Blc := Blc.mono hb
      replace Bld := Bld.mono hb
      replace hx := hx.mono hb
      replace hy := hy.mono hb
      replace hz := hz.mono hb
      replace hu := hu.mono hb
      replace h2a := h2a.mono hb
      replace h2b := h2b.mono hb
      replace h4a := h4a.mono hb
      replace h4b := h4b.mono hb
      replace h6a := h6a.mono hb
      replace h6b := h6b.mono hb
      replace h8a := h8a.mono hb
      replace h8b := h8b.mono hb
      replace ca_0 := cellK ca_0 hb
      replace ca_1 := cellK ca_1 hb
      replace ca_2 := cellK ca_2 hb
      replace ca_3 := cellK ca_3 hb
      replace ca_4 := cellK ca_4 hb
      replace ca_5 := cellK ca_5 hb
      replace cb_0 := cellK cb_0 hb
      replace cb_1 := cellK cb_1 hb
      replace cb_2 := cellK cb_2 hb
      replace cb_3 := cellK cb_3 hb
      replace cb_4 := cellK cb_4 hb
      replace cb_5 := cellK cb_5 hb
      replace cc_0 := cellK cc_0 hb
      replace cc_1 := cellK cc_1 hb
      replace cc_2 := cellK cc_2 hb
      replace cc_3 := cellK cc_3 hb
      replace cc_4 := cellK cc_4 hb
      replace cc_5 := cellK cc_5 hb
      replace cd_0 := cellK cd_0 hb
      replace cd_1 := cellK cd_1 hb
      replace cd_2 := cellK cd_2 hb
      replace cd_3 := cellK cd_3 hb
      replace cd_4 := cellK cd_4 hb
      replace cd_5 := cellK cd_5 hb
      clear hb
      try go_wp2_with fail
      refine hK.out _ _ ⟨ca_0, ca_1, ca_2, ca_3, ca_4, ca_5, cb_0, cb_1, cb_2, cb_3, cb_4, cb_5, cc_0, cc_1, cc_2, cc_3, cc_4, cc_5, cd_0, cd_1, cd_2, cd_3, cd_4, cd_5⟩ (fun hH => ?_)
      clear hK K
      try simp only [Act.put, List.setIfInBounds_toArray, List.set_cons_zero, List.set_cons_succ]
      clear hH
      refine U_one (i := 5) (by kernel_rfl) rfl (fun K hK => ?_)
      go_simp
      (with_reducible refine (r_Hull _ _ _ _ _ _ _ (RV2.mk h6a h6b) (SzQ.mid (SzQ.mul sy sz)) (SzQ.mid (SzQ.mul sy sz)) (RV2.mk h8a h8b) (SzQ.mid (SzQ.mul sy su)) (SzQ.mid (SzQ.mul sy su))).mono ?_)
      rintro e w4 ⟨_, rfl, h10, hb⟩
      obtain ⟨sh10a, ah10a, nh10a, ch10a, Ah10a, Nh10a, Ch10a, sh10b, ah10b, nh10b, ch10b, Ah10b, Nh10b, Ch10b, rfl, h10a, h10b⟩ := h10.shape
      replace hs := bStep hs hb
      replace Blx := Blx.mono hb
      replace Bly := Bly.mono hb
      replace Blk := Blk.mono hb
      replace Bla := Bla.mono hb
      replace Blb := Blb.mono hb
      replace Blc := Blc.mono hb
      replace Bld := Bld.mono hb
      replace hx := hx.mono hb
      replace hy := hy.mono hb
      replace hz := hz.mono hb
      replace hu := hu.mono hb
      replace h2a := h2a.mono hb
      replace h2b := h2b.mono hb
      replace h4a := h4a.mono hb
      replace h4b := h4b.mono hb
      replace h6a := h6a.mono hb
      replace h6b := h6b.mono hb
      replace h8a := h8a.mono hb
      replace h8b := h8b.mono hb
      replace h9a := h9a.mono hb
      replace h9b := h9b.mono hb
      replace ca_0 := cellK ca_0 hb
      replace ca_1 := cellK ca_1 hb
      replace ca_2 := cellK ca_2 hb
      replace ca_3 := cellK ca_3 hb
      replace ca_4 := cellK ca_4 hb
      replace ca_5 := cellK ca_5 hb
      replace cb_0 := cellK cb_0 hb
      replace cb_1 := cellK cb_1 hb
      replace cb_2 := cellK cb_2 hb
      replace cb_3 := cellK cb_3 hb
      replace cb_4 := cellK cb_4 hb
      replace cb_5 := cellK cb_5 hb
      replace cc_0 := cellK cc_0 hb
      replace cc_1 := cellK cc_1 hb
      replace cc_2 := cellK cc_2 hb
      replace cc_3 := cellK cc_3 hb
      replace cc_4 := cellK cc_4 hb
      replace cc_5 := cellK cc_5 hb
      replace cd_0 := cellK cd_0 hb
      replace cd_1 := cellK cd_1 hb
      replace cd_2 := cellK cd_2 hb
      replace cd_3 := cellK cd_3 hb
      replace cd_4 := cellK cd_4 hb
      replace cd_5 := cellK cd_5 hb
      clear hb
      try go_wp2_with fail
      refine hK.out _ _ ⟨ca_0, ca_1, ca_2, ca_3, ca_4, ca_5, cb_0, cb_1, cb_2, cb_3, cb_4, cb_5, cc_0, cc_1, cc_2, cc_3, cc_4, cc_5, cd_0, cd_1, cd_2, cd_3, cd_4, cd_5⟩ (fun hH => ?_)
      clear hK K
      try simp only [Act.put, List.setIfInBounds_toArray, List.set_cons_zero, List.set_cons_succ]
      clear hH
      refine U_one (i := 6) (by kernel_rfl) rfl (fun K hK => ?_)
      go_simp
      (with_reducible refine (r_Hull _ _ _ _ _ _ _ (RV2.mk h9a h9b) (SzQ.mid (mnQ_sz (SzQ.mid (SzQ.mul sx sz)) (SzQ.mid (SzQ.mul sx su)))) (SzQ.mid (mxQ_sz (SzQ.mid (SzQ.mul sx sz)) (SzQ.mid (SzQ.mul sx su)))) (RV2.mk h10a h10b) (SzQ.mid (mnQ_sz (SzQ.mid (SzQ.mul sy sz)) (SzQ.mid (SzQ.mul sy su)))) (SzQ.mid (mxQ_sz (SzQ.mid (SzQ.mul sy sz)) (SzQ.mid (SzQ.mul sy su))))).mono ?_)
      rintro e w5 ⟨_, rfl, h11, hb⟩
      obtain ⟨sh11a, ah11a, nh11a, ch11a, Ah11a, Nh11a, Ch11a, sh11b, ah11b, nh11b, ch11b, Ah11b, Nh11b, Ch11b, rfl, h11a, h11b⟩ := h11.shape
      replace hs := bStep hs hb
      replace Blx := Blx.mono hb
      replace Bly := Bly.mono hb
      replace Blk := Blk.mono hb
      replace Bla := Bla.mono hb
      replace Blb := Blb.mono hb
      replace Blc := Blc.mono hb
      replace Bld := Bld.mono hb
      replace hx := hx.mono hb
      replace hy := hy.mono hb
      replace hz := hz.mono hb
      replace hu := hu.mono hb
      replace h2a := h2a.mono hb
      replace h2b := h2b.mono hb
      replace h4a := h4a.mono hb
      replace h4b := h4b.mono hb
      replace h6a := h6a.mono hb
      replace h6b := h6b.mono hb
      replace h8a := h8a.mono hb
      replace h8b := h8b.mono hb
      replace h9a := h9a.mono hb
      replace h9b := h9b.mono hb
      replace h10a := h10a.mono hb
      replace h10b := h10b.mono hb
      replace ca_0 := cellK ca_0 hb
      replace ca_1 := cellK ca_1 hb
      replace ca_2 := cellK ca_2 hb
      replace ca_3 := cellK ca_3 hb
      replace ca_4 := cellK ca_4 hb
      replace ca_5 := cellK ca_5 hb
      replace cb_0 := cellK cb_0 hb
      replace cb_1 := cellK cb_1 hb
      replace cb_2 := cellK cb_2 hb
      replace cb_3 := cellK cb_3 hb
      replace cb_4 := cellK cb_4 hb
      replace cb_5 := cellK cb_5 hb
      replace cc_0 := cellK cc_0 hb
      replace cc_1 := cellK cc_1 hb
      replace cc_2 := cellK cc_2 hb
      replace cc_3 := cellK cc_3 hb
      replace cc_4 := cellK cc_4 hb
      replace cc_5 := cellK cc_5 hb
      replace cd_0 := cellK cd_0 hb
      replace cd_1 := cellK cd_1 hb
      replace cd_2 := cellK cd_2 hb
      replace cd_3 := cellK cd_3 hb
      replace cd_4 := cellK cd_4 hb
      replace cd_5 := cellK cd_5 hb
      clear hb
      try go_wp2_with fail
      refine hK.out _ _ ⟨ca_0, ca_1, ca_2, ca_3, ca_4, ca_5, cb_0, cb_1, cb_2, cb_3, cb_4, cb_5, cc_0, cc_1, cc_2, cc_3, cc_4, cc_5, cd_0, cd_1, cd_2, cd_3, cd_4, cd_5⟩ (fun hH => ?_)
      clear hK K
      try simp only [Act.put, List.setIfInBounds_toArray, List.set_cons_zero, List.set_cons_succ]
      clear hH
      have ck_0 : w5.cell? ⟨w.heap.size + 1 + 1, 0, none⟩ = some (.bool false) := Blk.at 0 rfl
      have ck_1 : w5.cell? ⟨w.heap.size + 1 + 1, 1, none⟩ = some (.slice none 0 0) := Blk.at 1 rfl
      have ck_2 : w5.cell? ⟨w.heap.size + 1 + 1, 2, none⟩ = some (.slice none 0 0) := Blk.at 2 rfl
      have ck_3 : w5.cell? ⟨w.heap.size + 1 + 1, 3, none⟩ = some (.bool false) := Blk.at 3 rfl
      have ck_4 : w5.cell? ⟨w.heap.size + 1 + 1, 4, none⟩ = some (.slice none 0 0) := Blk.at 4 rfl
      have ck_5 : w5.cell? ⟨w.heap.size + 1 + 1, 5, none⟩ = some (.slice none 0 0) := Blk.at 5 rfl
      have fk := Blk.free
      have Lk : w.heap.size + 1 + 1 < w5.heap.size := Blk.lt
      refine U_last (by kernel_rfl) rfl (by kernel_rfl) (fun K hK => ?_)
      go_simp
      refine hK.out _ _ ?_
      clear hK K
      intro w6 hW
      have hG : Gr [w.heap.size + 1 + 1] w5 w6 := by rw [hW]; exact (Gr.refl _ _).set.set.set.set.set.set
      have hsz := hs.size
      have lk := Blk.lt
      have hbw : Below w.heap.size w5 w6 := hG.below1 hs.size (by first | omega | assumption)
      have hk : KeepD w5 w6 := hG.keep ⟨⟨_, Blk.ty, by decide⟩, True.intro⟩
      have Bl1k : Bx w6 (w.heap.size + 1 + 1) 88 #[.bool sh11a, .slice ah11a nh11a ch11a, .slice Ah11a Nh11a Ch11a, .bool sh11b, .slice ah11b nh11b ch11b, .slice Ah11b Nh11b Ch11b] := by rw [hW]; exact Blk.set6
      replace hs := hs.trans hbw
      replace Blx := hG.bx Blx (notMem1 (by omega))
      replace Bly := hG.bx Bly (notMem1 (by omega))
      replace Bla := hG.bx Bla (notMem1 (by omega))
      replace Blb := hG.bx Blb (notMem1 (by omega))
      replace Blc := hG.bx Blc (notMem1 (by omega))
      replace Bld := hG.bx Bld (notMem1 (by omega))
      replace Blk := Bl1k
      clear Bl1k
      replace hx := hx.keep hk
      replace hy := hy.keep hk
      replace hz := hz.keep hk
      replace hu := hu.keep hk
      replace h2a := h2a.keep hk
      replace h2b := h2b.keep hk
      replace h4a := h4a.keep hk
      replace h4b := h4b.keep hk
      replace h6a := h6a.keep hk
      replace h6b := h6b.keep hk
      replace h8a := h8a.keep hk
      replace h8b := h8b.keep hk
      replace h9a := h9a.keep hk
      replace h9b := h9b.keep hk
      replace h10a := h10a.keep hk
      replace h10b := h10b.keep hk
      replace h11a := h11a.keep hk
      replace h11b := h11b.keep hk
      clear hW hG hk hbw hsz lk
      try simp only [Act.put, List.setIfInBounds_toArray, List.set_cons_zero, List.set_cons_succ]
      clear ca_0 ca_1 ca_2 ca_3 ca_4 ca_5 cb_0 cb_1 cb_2 cb_3 cb_4 cb_5 cc_0 cc_1 cc_2 cc_3 cc_4 cc_5 cd_0 cd_1 cd_2 cd_3 cd_4 cd_5
      go_wp2
      have ck_0 : w6.cell? ⟨w.heap.size + 1 + 1, 0, none⟩ = some (.bool sh11a) := Blk.at 0 rfl
      have ck_1 : w6.cell? ⟨w.heap.size + 1 + 1, 1, none⟩ = some (.slice ah11a nh11a ch11a) := Blk.at 1 rfl
      have ck_2 : w6.cell? ⟨w.heap.size + 1 + 1, 2, none⟩ = some (.slice Ah11a Nh11a Ch11a) := Blk.at 2 rfl
      have ck_3 : w6.cell? ⟨w.heap.size + 1 + 1, 3, none⟩ = some (.bool sh11b) := Blk.at 3 rfl
      have ck_4 : w6.cell? ⟨w.heap.size + 1 + 1, 4, none⟩ = some (.slice ah11b nh11b ch11b) := Blk.at 4 rfl
      have ck_5 : w6.cell? ⟨w.heap.size + 1 + 1, 5, none⟩ = some (.slice Ah11b Nh11b Ch11b) := Blk.at 5 rfl
      exact bodyPost_ret (v := .agg #[.bool sh11a, .slice ah11a nh11a ch11a, .slice Ah11a Nh11a Ch11a, .bool sh11b, .slice ah11b nh11b ch11b, .slice Ah11b Nh11b Ch11b]) (by simp [results, Tryz.results112, go_sem, ck_0, ck_1, ck_2, ck_3, ck_4, ck_5]) rfl ⟨_, rfl, (RV2.mk h11a h11b), hs⟩

end Go.Proofs.YtlfnapfnpkhggaaGreat
