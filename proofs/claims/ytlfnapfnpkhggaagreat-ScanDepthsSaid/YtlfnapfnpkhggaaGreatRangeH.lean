/-
  The program's around, Hull and Mul of ranges.
-/
import Derived.Test.YtlfnapfnpkhggaaGreatRangeM
import Derived.Test.YtlfnapfnpkhggaaGreatRangeP
set_option linter.unusedSimpArgs false
set_option linter.unusedVariables false
namespace Go.Proofs.YtlfnapfnpkhggaaGreat
open Go.RowKit Dg
attribute [local go_sem ↓] Go.wp_at_zero Go.wp_at_succ

theorem rows4P {w : World} {g : Nat} {a0 b0 c0 a1 b1 c1 a2 b2 c2 a3 b3 c3 : Value} {x0 x1 x2 x3 : Rat} (h : Bx w g 40 #[a0, b0, c0, a1, b1, c1, a2, b2, c2, a3, b3, c3]) (h0 : PV w (.agg #[a0, b0, c0]) x0) (h1 : PV w (.agg #[a1, b1, c1]) x1) (h2 : PV w (.agg #[a2, b2, c2]) x2) (h3 : PV w (.agg #[a3, b3, c3]) x3) : Rows 3 40 PC w (.slice (some ⟨g, 0, none⟩) 4 4) [x0, x1, x2, x3] := by
  refine ⟨_, 4, rfl, Nat.le_refl _, by show 4 ≤ _; omega, (fun e => by cases e), (fun a ea _ => by cases ea; exact h.ty), fun i x hx => ?_⟩
  match i, hx with
  | 0, hx => cases hx; exact ⟨g, 0, [a0, b0, c0], rfl, rfl, (fun j u hu => by match j, hu with | 0, hu => cases hu; exact h.at 0 rfl | 1, hu => cases hu; exact h.at 1 rfl | 2, hu => cases hu; exact h.at 2 rfl), ⟨_, _, _, rfl, h0⟩⟩
  | 1, hx => cases hx; exact ⟨g, 0, [a1, b1, c1], rfl, rfl, (fun j u hu => by match j, hu with | 0, hu => cases hu; exact h.at 3 rfl | 1, hu => cases hu; exact h.at 4 rfl | 2, hu => cases hu; exact h.at 5 rfl), ⟨_, _, _, rfl, h1⟩⟩
  | 2, hx => cases hx; exact ⟨g, 0, [a2, b2, c2], rfl, rfl, (fun j u hu => by match j, hu with | 0, hu => cases hu; exact h.at 6 rfl | 1, hu => cases hu; exact h.at 7 rfl | 2, hu => cases hu; exact h.at 8 rfl), ⟨_, _, _, rfl, h2⟩⟩
  | 3, hx => cases hx; exact ⟨g, 0, [a3, b3, c3], rfl, rfl, (fun j u hu => by match j, hu with | 0, hu => cases hu; exact h.at 9 rfl | 1, hu => cases hu; exact h.at 10 rfl | 2, hu => cases hu; exact h.at 11 rfl), ⟨_, _, _, rfl, h3⟩⟩
theorem fit4 {x y z u : Rat} (hx : Fit x) (hy : Fit y) (hz : Fit z) (hu : Fit u) : ∀ i, i < [x, y, z, u].length → Fit (nthQ [x, y, z, u] i) := by
  intro i hi
  match i, hi with
  | 0, _ => exact hx
  | 1, _ => exact hy
  | 2, _ => exact hz
  | 3, _ => exact hu

set_option maxRecDepth 100000 in
set_option maxHeartbeats 4000000 in
theorem p_around (v : Value) (L : List Rat) (w : World) (hl : Rows 3 40 PC w v L) (hn0 : 0 < L.length) (hn1 : L.length ≤ 1000) (hf : ∀ i, i < L.length → Fit (nthQ L i)) :
    Calls Tryz.prog 116 #[v] w (Ret1 (fun w v => PV2 w v (mnL L (L.length - 1)) (mxL L (L.length - 1))) w) := by
  obtain ⟨rb, ro, rc, rfl, hc1, hc2, -⟩ := hl.open_ hn0
  have hs := Below.refl w.heap.size w
  have HL := Lib.hid hl
  have HF := Lib.hid hf
  clear hl hf
  go_enter Tryz.func116, Tryz.ntmps116
  go_wp2_with fail
  refine Calls.abs ?_
  intro w1 hW
  have hG : Gr [] w w1 := by rw [hW]; exact (Gr.refl _ _).alloc
  have hbw : Below w.heap.size w w1 := hG.below0 hs.size
  have hk : KeepD w w1 := hG.keep True.intro
  have sz_w1 : w.heap.size ≤ w.heap.size := hs.size
  have Blk : Bx w1 (w.heap.size) 86 #[.bool false, .slice none 0 0, .slice none 0 0, .bool false, .slice none 0 0, .slice none 0 0] := by rw [hW]; exact (Bx.new0 _ _ _)
  replace hs := hs.trans hbw
  clear hW hG hk hbw
  have hz_w1 : w.heap.size < w1.heap.size := Blk.lt
  refine (p_MinFunc _ L _ (HL.out.mono PC.kept hs) hn0 hn1 HF.out).mono ?_
  rintro e w2 ⟨_, rfl, h1, hb⟩
  obtain ⟨sh1, ah1, nh1, ch1, Ah1, Nh1, Ch1, rfl⟩ := h1.shape
  replace hs := bStep hs hb
  replace Blk := Blk.mono hb
  clear hb
  go_wp2_with fail
  refine (p_MaxFunc _ L _ (HL.out.mono PC.kept hs) hn0 hn1 HF.out).mono ?_
  rintro e w3 ⟨_, rfl, h2, hb⟩
  obtain ⟨sh2, ah2, nh2, ch2, Ah2, Nh2, Ch2, rfl⟩ := h2.shape
  replace hs := bStep hs hb
  replace Blk := Blk.mono hb
  replace h1 := h1.mono hb
  clear hb
  have ck_0 : w3.cell? ⟨w.heap.size, 0, none⟩ = some (.bool false) := Blk.at 0 rfl
  have ck_1 : w3.cell? ⟨w.heap.size, 1, none⟩ = some (.slice none 0 0) := Blk.at 1 rfl
  have ck_2 : w3.cell? ⟨w.heap.size, 2, none⟩ = some (.slice none 0 0) := Blk.at 2 rfl
  have ck_3 : w3.cell? ⟨w.heap.size, 3, none⟩ = some (.bool false) := Blk.at 3 rfl
  have ck_4 : w3.cell? ⟨w.heap.size, 4, none⟩ = some (.slice none 0 0) := Blk.at 4 rfl
  have ck_5 : w3.cell? ⟨w.heap.size, 5, none⟩ = some (.slice none 0 0) := Blk.at 5 rfl
  have fk := Blk.free
  have Lk : w.heap.size < w3.heap.size := Blk.lt
  go_wp2
  clear ck_0 ck_1 ck_2 ck_3 ck_4 ck_5 fk Lk
  refine bodyPost.abs ?_
  intro w4 hW
  have hG : Gr [w.heap.size] w3 w4 := by rw [hW]; exact (Gr.refl _ _).set.set.set.set.set.set
  have hsz := hs.size
  have lk := Blk.lt
  have hbw : Below w.heap.size w3 w4 := hG.below1 hs.size (by first | omega | assumption)
  have hk : KeepD w3 w4 := hG.keep ⟨⟨_, Blk.ty, by decide⟩, True.intro⟩
  have Bl1k : Bx w4 (w.heap.size) 86 #[.bool sh1, .slice ah1 nh1 ch1, .slice Ah1 Nh1 Ch1, .bool sh2, .slice ah2 nh2 ch2, .slice Ah2 Nh2 Ch2] := by rw [hW]; exact Blk.set6
  replace hs := hs.trans hbw
  replace Blk := Bl1k
  clear Bl1k
  replace h1 := h1.keep hk
  replace h2 := h2.keep hk
  clear hW hG hk hbw hsz lk
  have ck_0 : w4.cell? ⟨w.heap.size, 0, none⟩ = some (.bool sh1) := Blk.at 0 rfl
  have ck_1 : w4.cell? ⟨w.heap.size, 1, none⟩ = some (.slice ah1 nh1 ch1) := Blk.at 1 rfl
  have ck_2 : w4.cell? ⟨w.heap.size, 2, none⟩ = some (.slice Ah1 Nh1 Ch1) := Blk.at 2 rfl
  have ck_3 : w4.cell? ⟨w.heap.size, 3, none⟩ = some (.bool sh2) := Blk.at 3 rfl
  have ck_4 : w4.cell? ⟨w.heap.size, 4, none⟩ = some (.slice ah2 nh2 ch2) := Blk.at 4 rfl
  have ck_5 : w4.cell? ⟨w.heap.size, 5, none⟩ = some (.slice Ah2 Nh2 Ch2) := Blk.at 5 rfl
  exact bodyPost_ret (v := .agg #[.bool sh1, .slice ah1 nh1 ch1, .slice Ah1 Nh1 Ch1, .bool sh2, .slice ah2 nh2 ch2, .slice Ah2 Nh2 Ch2]) (by simp [results, Tryz.results116, go_sem, ck_0, ck_1, ck_2, ck_3, ck_4, ck_5]) rfl ⟨_, rfl, PV2.mk h1 h2, hs⟩

set_option maxRecDepth 100000 in
set_option maxHeartbeats 4000000 in
theorem p_Hull (vxy : Value) (x y : Rat) (vzu : Value) (z u : Rat) (w : World) (hxy : PV2 w vxy x y) (sx : Mid x) (sy : Mid y) (hzu : PV2 w vzu z u) (sz : Mid z) (su : Mid u) :
    Calls Tryz.prog 47 #[vxy, vzu] w (Ret1 (fun w v => PV2 w v (mnL [x, y, z, u] 3) (mxL [x, y, z, u] 3)) w) := by
  obtain ⟨shx, ahx, nhx, chx, Ahx, Nhx, Chx, shy, ahy, nhy, chy, Ahy, Nhy, Chy, rfl, hx, hy⟩ := hxy.shape
  clear hxy
  obtain ⟨shz, ahz, nhz, chz, Ahz, Nhz, Chz, shu, ahu, nhu, chu, Ahu, Nhu, Chu, rfl, hz, hu⟩ := hzu.shape
  clear hzu
  have hs := Below.refl w.heap.size w
  go_enter Tryz.func47, Tryz.ntmps47
  go_wp2_with fail
  refine Calls.abs ?_
  intro w1 hW
  have hG : Gr [] w w1 := by rw [hW]; exact (Gr.refl _ _).alloc.alloc.alloc.alloc
  have hbw : Below w.heap.size w w1 := hG.below0 hs.size
  have hk : KeepD w w1 := hG.keep True.intro
  have sz_w1 : w.heap.size ≤ w.heap.size := hs.size
  have Blx : Bx w1 (w.heap.size) 86 #[.bool shx, .slice ahx nhx chx, .slice Ahx Nhx Chx, .bool shy, .slice ahy nhy chy, .slice Ahy Nhy Chy] := by rw [hW]; exact ((((Bx.new0 _ _ _).alloc _).alloc _).alloc _)
  have Bly : Bx w1 (w.heap.size + 1) 86 #[.bool shz, .slice ahz nhz chz, .slice Ahz Nhz Chz, .bool shu, .slice ahu nhu chu, .slice Ahu Nhu Chu] := by rw [hW]; exact (((Bx.new0 _ _ _).alloc _).alloc _)
  have Blk : Bx w1 (w.heap.size + 1 + 1) 86 #[.bool false, .slice none 0 0, .slice none 0 0, .bool false, .slice none 0 0, .slice none 0 0] := by rw [hW]; exact ((Bx.new0 _ _ _).alloc _)
  have Blls : Bx w1 (w.heap.size + 1 + 1 + 1) 40 #[.bool shx, .slice ahx nhx chx, .slice Ahx Nhx Chx, .bool shy, .slice ahy nhy chy, .slice Ahy Nhy Chy, .bool shz, .slice ahz nhz chz, .slice Ahz Nhz Chz, .bool shu, .slice ahu nhu chu, .slice Ahu Nhu Chu] := by rw [hW]; exact (Bx.new0 _ _ _)
  replace hs := hs.trans hbw
  replace hx := hx.keep hk
  replace hy := hy.keep hk
  replace hz := hz.keep hk
  replace hu := hu.keep hk
  clear hW hG hk hbw
  have hz_w1 : w.heap.size + 1 + 1 + 1 < w1.heap.size := Blls.lt
  refine (p_around _ [x, y, z, u] _ (rows4P Blls hx hy hz hu) (by simp) (by simp) (fit4 (SzQ.fit sx) (SzQ.fit sy) (SzQ.fit sz) (SzQ.fit su))).mono ?_
  rintro e w2 ⟨_, rfl, h1, hb⟩
  obtain ⟨sh1a, ah1a, nh1a, ch1a, Ah1a, Nh1a, Ch1a, sh1b, ah1b, nh1b, ch1b, Ah1b, Nh1b, Ch1b, rfl, h1a, h1b⟩ := h1.shape
  replace hs := bStep hs hb
  replace Blx := Blx.mono hb
  replace Bly := Bly.mono hb
  replace Blk := Blk.mono hb
  replace Blls := Blls.mono hb
  replace hx := hx.mono hb
  replace hy := hy.mono hb
  replace hz := hz.mono hb
  replace hu := hu.mono hb
  clear hb
  have ck_0 : w2.cell? ⟨w.heap.size + 1 + 1, 0, none⟩ = some (.bool false) := Blk.at 0 rfl
  have ck_1 : w2.cell? ⟨w.heap.size + 1 + 1, 1, none⟩ = some (.slice none 0 0) := Blk.at 1 rfl
  have ck_2 : w2.cell? ⟨w.heap.size + 1 + 1, 2, none⟩ = some (.slice none 0 0) := Blk.at 2 rfl
  have ck_3 : w2.cell? ⟨w.heap.size + 1 + 1, 3, none⟩ = some (.bool false) := Blk.at 3 rfl
  have ck_4 : w2.cell? ⟨w.heap.size + 1 + 1, 4, none⟩ = some (.slice none 0 0) := Blk.at 4 rfl
  have ck_5 : w2.cell? ⟨w.heap.size + 1 + 1, 5, none⟩ = some (.slice none 0 0) := Blk.at 5 rfl
  have fk := Blk.free
  have Lk : w.heap.size + 1 + 1 < w2.heap.size := Blk.lt
  go_wp2
  clear ck_0 ck_1 ck_2 ck_3 ck_4 ck_5 fk Lk
  refine bodyPost.abs ?_
  intro w3 hW
  have hG : Gr [w.heap.size + 1 + 1] w2 w3 := by rw [hW]; exact (Gr.refl _ _).set.set.set.set.set.set
  have hsz := hs.size
  have lk := Blk.lt
  have hbw : Below w.heap.size w2 w3 := hG.below1 hs.size (by first | omega | assumption)
  have hk : KeepD w2 w3 := hG.keep ⟨⟨_, Blk.ty, by decide⟩, True.intro⟩
  have Bl1k : Bx w3 (w.heap.size + 1 + 1) 86 #[.bool sh1a, .slice ah1a nh1a ch1a, .slice Ah1a Nh1a Ch1a, .bool sh1b, .slice ah1b nh1b ch1b, .slice Ah1b Nh1b Ch1b] := by rw [hW]; exact Blk.set6
  replace hs := hs.trans hbw
  replace Blx := hG.bx Blx (notMem1 (by omega))
  replace Bly := hG.bx Bly (notMem1 (by omega))
  replace Blls := hG.bx Blls (notMem1 (by omega))
  replace Blk := Bl1k
  clear Bl1k
  replace hx := hx.keep hk
  replace hy := hy.keep hk
  replace hz := hz.keep hk
  replace hu := hu.keep hk
  replace h1a := h1a.keep hk
  replace h1b := h1b.keep hk
  clear hW hG hk hbw hsz lk
  have ck_0 : w3.cell? ⟨w.heap.size + 1 + 1, 0, none⟩ = some (.bool sh1a) := Blk.at 0 rfl
  have ck_1 : w3.cell? ⟨w.heap.size + 1 + 1, 1, none⟩ = some (.slice ah1a nh1a ch1a) := Blk.at 1 rfl
  have ck_2 : w3.cell? ⟨w.heap.size + 1 + 1, 2, none⟩ = some (.slice Ah1a Nh1a Ch1a) := Blk.at 2 rfl
  have ck_3 : w3.cell? ⟨w.heap.size + 1 + 1, 3, none⟩ = some (.bool sh1b) := Blk.at 3 rfl
  have ck_4 : w3.cell? ⟨w.heap.size + 1 + 1, 4, none⟩ = some (.slice ah1b nh1b ch1b) := Blk.at 4 rfl
  have ck_5 : w3.cell? ⟨w.heap.size + 1 + 1, 5, none⟩ = some (.slice Ah1b Nh1b Ch1b) := Blk.at 5 rfl
  exact bodyPost_ret (v := .agg #[.bool sh1a, .slice ah1a nh1a ch1a, .slice Ah1a Nh1a Ch1a, .bool sh1b, .slice ah1b nh1b ch1b, .slice Ah1b Nh1b Ch1b]) (by simp [results, Tryz.results47, go_sem, ck_0, ck_1, ck_2, ck_3, ck_4, ck_5]) rfl ⟨_, rfl, (PV2.mk h1a h1b), hs⟩

end Go.Proofs.YtlfnapfnpkhggaaGreat
