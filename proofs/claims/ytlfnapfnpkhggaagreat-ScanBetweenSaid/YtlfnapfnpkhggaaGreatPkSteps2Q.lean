/-
  Law 07: the closure 'step' of ScanBetween: a number of a range, by a part of 255.
-/
import Derived.Test.YtlfnapfnpkhggaaGreatRangePQ
import Derived.Test.YtlfnapfnpkhggaaGreatPkTabQ
import Derived.Test.YtlfnapfnpkhggaaGreatPkHeldQ
import Derived.Test.YtlfnapfnpkhggaaGreatStepsQ
set_option linter.unusedSimpArgs false
set_option linter.unusedVariables false
namespace Go.Proofs.YtlfnapfnpkhggaaGreat
open Go.RowKit Dg
attribute [local go_sem ↓] Go.wp_at_zero Go.wp_at_succ

theorem p_New_part {p : Int} {f : Rat} (w : World) (h0 : 0 ≤ p) (h1 : p ≤ 255) (hf : (p : Rat) / ((255 : Int) : Rat) = f) : Calls Tryz.prog 33 #[.int .i64 p, .int .i64 255] w (RetPE w f 0) := by
  subst hf
  exact p_New_calls p 255 w (by omega) (by omega) (by omega) (by omega) (by omega)
theorem part_sz {p : Int} {f : Rat} (h0 : 0 ≤ p) (h1 : p ≤ 255) (hf : (p : Rat) / ((255 : Int) : Rat) = f) : SzQ 1 f := hf ▸ szQ_frac (by omega) (by decide) (by decide)
theorem part_bd {p : Int} {f : Rat} (h0 : 0 ≤ p) (h1 : p ≤ 255) (hf : (p : Rat) / ((255 : Int) : Rat) = f) : 0 ≤ f ∧ f ≤ 1 := by
  have a0 : (0 : Rat) ≤ (p : Rat) := Rat.intCast_nonneg.2 h0
  have a1 : (p : Rat) ≤ ((255 : Int) : Rat) := Rat.intCast_le_intCast.2 h1
  have h : (0 : Rat) < ((255 : Int) : Rat) := by decide +kernel
  subst hf
  constructor
  · refine Rat.not_lt.1 fun hc => ?_
    rw [Rat.div_lt_iff h] at hc
    grind
  · refine Rat.not_lt.1 fun hc => ?_
    rw [Rat.lt_div_iff h] at hc
    grind

set_option maxRecDepth 100000 in
set_option maxHeartbeats 4000000 in
theorem l7_step (shlo : Bool) (ahlo : Option Addr) (nhlo chlo : Nat) (Ahlo : Option Addr) (Nhlo Chlo : Nat) (shhi : Bool) (ahhi : Option Addr) (nhhi chhi : Nat) (Ahhi : Option Addr) (Nhhi Chhi : Nat) (p : Int) (g : Nat) (lo hi f : Rat) (w : World) (Blwide : Bx w g 86 #[.bool shlo, .slice ahlo nhlo chlo, .slice Ahlo Nhlo Chlo, .bool shhi, .slice ahhi nhhi chhi, .slice Ahhi Nhhi Chhi]) (hlo : PV w (.agg #[.bool shlo, .slice ahlo nhlo chlo, .slice Ahlo Nhlo Chlo]) lo) (hhi : PV w (.agg #[.bool shhi, .slice ahhi nhhi chhi, .slice Ahhi Nhhi Chhi]) hi) (slo : SzQ 100 lo) (shi : SzQ 100 hi) (h0 : 0 ≤ p) (h1 : p ≤ 255) (hf : (p : Rat) / ((255 : Int) : Rat) = f) :
    Calls Tryz.prog 49 #[.int .u8 p, .pointer (some ⟨g, 0, none⟩)] w (RetP w (lo + (hi - lo) * f)) := by
  have hs := Below.refl w.heap.size w
  have sf := part_sz h0 h1 hf
  have HFQ := Lib.hid hf
  have hgl := Blwide.lt
  clear hf
  go_enter Tryz.func49, Tryz.ntmps49
  go_wp2_with fail
  refine Calls.abs ?_
  intro w1 hW
  have hG : Gr [] w w1 := by rw [hW]; exact (Gr.refl _ _).alloc
  have hbw : Below w.heap.size w w1 := hG.below0 hs.size
  have hk : KeepD w w1 := hG.keep True.intro
  have sz_w1 : w.heap.size ≤ w.heap.size := hs.size
  have nwide_w1 : g < w.heap.size := Blwide.lt
  have Blk : Bx w1 (w.heap.size) 40 #[.bool false, .slice none 0 0, .slice none 0 0] := by rw [hW]; exact (Bx.new0 _ _ _)
  replace hs := hs.trans hbw
  replace Blwide := hG.bx Blwide notMem0
  replace hlo := hlo.keep hk
  replace hhi := hhi.keep hk
  clear hW hG hk hbw
  have hz_w1 : w.heap.size < w1.heap.size := Blk.lt
  with_reducible refine (p_New_part _ h0 h1 HFQ.out).mono ?_
  rintro e w2 ⟨_, rfl, h1, hb⟩
  obtain ⟨sh1, ah1, nh1, ch1, Ah1, Nh1, Ch1, rfl⟩ := h1.shape
  replace hs := bStep hs hb
  replace Blwide := Blwide.mono hb
  replace Blk := Blk.mono hb
  replace hlo := hlo.mono hb
  replace hhi := hhi.mono hb
  clear hb
  go_upto_region 2 with fail
  refine Code.abs ?_
  intro w3 hW
  have hG : Gr [] w2 w3 := by rw [hW]; exact (Gr.refl _ _).alloc
  have hbw : Below w.heap.size w2 w3 := hG.below0 hs.size
  have hk : KeepD w2 w3 := hG.keep True.intro
  have sz_w3 : w.heap.size ≤ w2.heap.size := hs.size
  have nwide_w3 : g < w2.heap.size := Blwide.lt
  have nk_w3 : w.heap.size < w2.heap.size := Blk.lt
  have Blf : Bx w3 (w2.heap.size) 40 #[.bool sh1, .slice ah1 nh1 ch1, .slice Ah1 Nh1 Ch1] := by rw [hW]; exact (Bx.new0 _ _ _)
  replace hs := hs.trans hbw
  replace Blwide := hG.bx Blwide notMem0
  replace Blk := hG.bx Blk notMem0
  replace hlo := hlo.keep hk
  replace hhi := hhi.keep hk
  replace h1 := h1.keep hk
  clear hW hG hk hbw
  have hz_w3 : w2.heap.size < w3.heap.size := Blf.lt
  refine U_region (S := fun w' => w'.cell? ⟨g, 0, none⟩ = some (.bool shlo) ∧ w'.cell? ⟨g, 1, none⟩ = some (.slice ahlo nhlo chlo) ∧ w'.cell? ⟨g, 2, none⟩ = some (.slice Ahlo Nhlo Chlo) ∧ w'.cell? ⟨g, 3, none⟩ = some (.bool shhi) ∧ w'.cell? ⟨g, 4, none⟩ = some (.slice ahhi nhhi chhi) ∧ w'.cell? ⟨g, 5, none⟩ = some (.slice Ahhi Nhhi Chhi) ∧ w'.cell? ⟨w2.heap.size, 0, none⟩ = some (.bool sh1) ∧ w'.cell? ⟨w2.heap.size, 1, none⟩ = some (.slice ah1 nh1 ch1) ∧ w'.cell? ⟨w2.heap.size, 2, none⟩ = some (.slice Ah1 Nh1 Ch1)) (by kernel_rfl) 7 ?_
  refine AnyU.abs ?_
  intro w4 hW
  have hb : Below w3.heap.size w3 w4 := by rw [hW]; exact bDrew _
  replace hs := bStep hs hb
  replace Blwide := Blwide.mono hb
  replace Blk := Blk.mono hb
  replace Blf := Blf.mono hb
  replace hlo := hlo.mono hb
  replace hhi := hhi.mono hb
  replace h1 := h1.mono hb
  clear hb hW
  have cwide_0 : w4.cell? ⟨g, 0, none⟩ = some (.bool shlo) := Blwide.at 0 rfl
  have cwide_1 : w4.cell? ⟨g, 1, none⟩ = some (.slice ahlo nhlo chlo) := Blwide.at 1 rfl
  have cwide_2 : w4.cell? ⟨g, 2, none⟩ = some (.slice Ahlo Nhlo Chlo) := Blwide.at 2 rfl
  have cwide_3 : w4.cell? ⟨g, 3, none⟩ = some (.bool shhi) := Blwide.at 3 rfl
  have cwide_4 : w4.cell? ⟨g, 4, none⟩ = some (.slice ahhi nhhi chhi) := Blwide.at 4 rfl
  have cwide_5 : w4.cell? ⟨g, 5, none⟩ = some (.slice Ahhi Nhhi Chhi) := Blwide.at 5 rfl
  have cf_0 : w4.cell? ⟨w2.heap.size, 0, none⟩ = some (.bool sh1) := Blf.at 0 rfl
  have cf_1 : w4.cell? ⟨w2.heap.size, 1, none⟩ = some (.slice ah1 nh1 ch1) := Blf.at 1 rfl
  have cf_2 : w4.cell? ⟨w2.heap.size, 2, none⟩ = some (.slice Ah1 Nh1 Ch1) := Blf.at 2 rfl
  have hH := (show w4.cell? ⟨g, 0, none⟩ = some (.bool shlo) ∧ w4.cell? ⟨g, 1, none⟩ = some (.slice ahlo nhlo chlo) ∧ w4.cell? ⟨g, 2, none⟩ = some (.slice Ahlo Nhlo Chlo) ∧ w4.cell? ⟨g, 3, none⟩ = some (.bool shhi) ∧ w4.cell? ⟨g, 4, none⟩ = some (.slice ahhi nhhi chhi) ∧ w4.cell? ⟨g, 5, none⟩ = some (.slice Ahhi Nhhi Chhi) ∧ w4.cell? ⟨w2.heap.size, 0, none⟩ = some (.bool sh1) ∧ w4.cell? ⟨w2.heap.size, 1, none⟩ = some (.slice ah1 nh1 ch1) ∧ w4.cell? ⟨w2.heap.size, 2, none⟩ = some (.slice Ah1 Nh1 Ch1) from ⟨cwide_0, cwide_1, cwide_2, cwide_3, cwide_4, cwide_5, cf_0, cf_1, cf_2⟩)
  refine U_take (i := 0) (v := ?_) rfl (by kernel_rfl) (by kernel_rfl) (by kernel_rfl) (by kernel_rfl) (fun _ _ _ h => h) (Or.inl ⟨by rfl, ?_⟩) hH ?_
  rotate_left
  · intro w hSw
    try dsimp only at hSw
    go_simp
    try with_reducible rfl
  try simp only [Act.put, List.setIfInBounds_toArray, List.set_cons_zero, List.set_cons_succ]
  refine U_take (i := 2) (v := ?_) rfl (by kernel_rfl) (by kernel_rfl) (by kernel_rfl) (by kernel_rfl) (fun _ _ _ h => h) (Or.inl ⟨by rfl, ?_⟩) hH ?_
  rotate_left
  · intro w hSw
    try dsimp only at hSw
    go_simp
    try with_reducible rfl
  try simp only [Act.put, List.setIfInBounds_toArray, List.set_cons_zero, List.set_cons_succ]
  refine U_take (i := 4) (v := ?_) rfl (by kernel_rfl) (by kernel_rfl) (by kernel_rfl) (by kernel_rfl) (fun _ _ _ h => h) (Or.inl ⟨by rfl, ?_⟩) hH ?_
  rotate_left
  · intro w hSw
    try dsimp only at hSw
    go_simp
    try with_reducible rfl
  try simp only [Act.put, List.setIfInBounds_toArray, List.set_cons_zero, List.set_cons_succ]
  clear hH
  refine U_one (i := 1) (by kernel_rfl) rfl (fun K hK => ?_)
  go_simp
  (with_reducible refine (p_Lo _ _ _ _ (PV2.mk hlo hhi)).mono ?_)
  rintro e w5 ⟨_, rfl, h2, hb⟩
  obtain ⟨sh2, ah2, nh2, ch2, Ah2, Nh2, Ch2, rfl⟩ := h2.shape
  replace hs := bStep hs hb
  replace Blwide := Blwide.mono hb
  replace Blk := Blk.mono hb
  replace Blf := Blf.mono hb
  replace hlo := hlo.mono hb
  replace hhi := hhi.mono hb
  replace h1 := h1.mono hb
  replace cwide_0 := cellK cwide_0 hb
  replace cwide_1 := cellK cwide_1 hb
  replace cwide_2 := cellK cwide_2 hb
  replace cwide_3 := cellK cwide_3 hb
  replace cwide_4 := cellK cwide_4 hb
  replace cwide_5 := cellK cwide_5 hb
  replace cf_0 := cellK cf_0 hb
  replace cf_1 := cellK cf_1 hb
  replace cf_2 := cellK cf_2 hb
  clear hb
  try go_wp2_with fail
  refine hK.out _ _ ⟨cwide_0, cwide_1, cwide_2, cwide_3, cwide_4, cwide_5, cf_0, cf_1, cf_2⟩ (fun hH => ?_)
  clear hK K
  try simp only [Act.put, List.setIfInBounds_toArray, List.set_cons_zero, List.set_cons_succ]
  clear hH
  refine U_one (i := 3) (by kernel_rfl) rfl (fun K hK => ?_)
  go_simp
  (with_reducible refine (p_Width _ _ _ _ (PV2.mk hlo hhi) (SzQ.mid slo) (SzQ.mid shi)).mono ?_)
  rintro e w6 ⟨_, rfl, h3, hb⟩
  obtain ⟨sh3, ah3, nh3, ch3, Ah3, Nh3, Ch3, rfl⟩ := h3.shape
  replace hs := bStep hs hb
  replace Blwide := Blwide.mono hb
  replace Blk := Blk.mono hb
  replace Blf := Blf.mono hb
  replace hlo := hlo.mono hb
  replace hhi := hhi.mono hb
  replace h1 := h1.mono hb
  replace h2 := h2.mono hb
  replace cwide_0 := cellK cwide_0 hb
  replace cwide_1 := cellK cwide_1 hb
  replace cwide_2 := cellK cwide_2 hb
  replace cwide_3 := cellK cwide_3 hb
  replace cwide_4 := cellK cwide_4 hb
  replace cwide_5 := cellK cwide_5 hb
  replace cf_0 := cellK cf_0 hb
  replace cf_1 := cellK cf_1 hb
  replace cf_2 := cellK cf_2 hb
  clear hb
  try go_wp2_with fail
  refine hK.out _ _ ⟨cwide_0, cwide_1, cwide_2, cwide_3, cwide_4, cwide_5, cf_0, cf_1, cf_2⟩ (fun hH => ?_)
  clear hK K
  try simp only [Act.put, List.setIfInBounds_toArray, List.set_cons_zero, List.set_cons_succ]
  clear hH
  refine U_one (i := 5) (by kernel_rfl) rfl (fun K hK => ?_)
  go_simp
  (with_reducible refine (pMul h3 h1 (SzQ.fit (SzQ.sub shi slo)) (SzQ.fit sf)).mono ?_)
  rintro e w7 ⟨_, rfl, h4, hb⟩
  obtain ⟨sh4, ah4, nh4, ch4, Ah4, Nh4, Ch4, rfl⟩ := h4.shape
  replace hs := bStep hs hb
  replace Blwide := Blwide.mono hb
  replace Blk := Blk.mono hb
  replace Blf := Blf.mono hb
  replace hlo := hlo.mono hb
  replace hhi := hhi.mono hb
  replace h1 := h1.mono hb
  replace h2 := h2.mono hb
  replace h3 := h3.mono hb
  replace cwide_0 := cellK cwide_0 hb
  replace cwide_1 := cellK cwide_1 hb
  replace cwide_2 := cellK cwide_2 hb
  replace cwide_3 := cellK cwide_3 hb
  replace cwide_4 := cellK cwide_4 hb
  replace cwide_5 := cellK cwide_5 hb
  replace cf_0 := cellK cf_0 hb
  replace cf_1 := cellK cf_1 hb
  replace cf_2 := cellK cf_2 hb
  clear hb
  try go_wp2_with fail
  refine hK.out _ _ ⟨cwide_0, cwide_1, cwide_2, cwide_3, cwide_4, cwide_5, cf_0, cf_1, cf_2⟩ (fun hH => ?_)
  clear hK K
  try simp only [Act.put, List.setIfInBounds_toArray, List.set_cons_zero, List.set_cons_succ]
  clear hH
  refine U_one (i := 6) (by kernel_rfl) rfl (fun K hK => ?_)
  go_simp
  (with_reducible refine (pAdd h2 h4 (SzQ.fit slo) (SzQ.fit (SzQ.mul (SzQ.sub shi slo) sf))).mono ?_)
  rintro e w8 ⟨_, rfl, h5, hb⟩
  obtain ⟨sh5, ah5, nh5, ch5, Ah5, Nh5, Ch5, rfl⟩ := h5.shape
  replace hs := bStep hs hb
  replace Blwide := Blwide.mono hb
  replace Blk := Blk.mono hb
  replace Blf := Blf.mono hb
  replace hlo := hlo.mono hb
  replace hhi := hhi.mono hb
  replace h1 := h1.mono hb
  replace h2 := h2.mono hb
  replace h3 := h3.mono hb
  replace h4 := h4.mono hb
  replace cwide_0 := cellK cwide_0 hb
  replace cwide_1 := cellK cwide_1 hb
  replace cwide_2 := cellK cwide_2 hb
  replace cwide_3 := cellK cwide_3 hb
  replace cwide_4 := cellK cwide_4 hb
  replace cwide_5 := cellK cwide_5 hb
  replace cf_0 := cellK cf_0 hb
  replace cf_1 := cellK cf_1 hb
  replace cf_2 := cellK cf_2 hb
  clear hb
  try go_wp2_with fail
  refine hK.out _ _ ⟨cwide_0, cwide_1, cwide_2, cwide_3, cwide_4, cwide_5, cf_0, cf_1, cf_2⟩ (fun hH => ?_)
  clear hK K
  try simp only [Act.put, List.setIfInBounds_toArray, List.set_cons_zero, List.set_cons_succ]
  clear hH
  have ck_0 : w8.cell? ⟨w.heap.size, 0, none⟩ = some (.bool false) := Blk.at 0 rfl
  have ck_1 : w8.cell? ⟨w.heap.size, 1, none⟩ = some (.slice none 0 0) := Blk.at 1 rfl
  have ck_2 : w8.cell? ⟨w.heap.size, 2, none⟩ = some (.slice none 0 0) := Blk.at 2 rfl
  have fk := Blk.free
  have Lk : w.heap.size < w8.heap.size := Blk.lt
  refine U_last (by kernel_rfl) rfl (by kernel_rfl) (fun K hK => ?_)
  go_simp
  refine hK.out _ _ ?_
  clear hK K
  intro w9 hW
  have hG : Gr [w.heap.size] w8 w9 := by rw [hW]; exact (Gr.refl _ _).set.set.set
  have hsz := hs.size
  have lk := Blk.lt
  have hbw : Below w.heap.size w8 w9 := hG.below1 hs.size (by first | omega | assumption)
  have hk : KeepD w8 w9 := hG.keep ⟨⟨_, Blk.ty, by decide⟩, True.intro⟩
  have Bl1k : Bx w9 (w.heap.size) 40 #[.bool sh5, .slice ah5 nh5 ch5, .slice Ah5 Nh5 Ch5] := by rw [hW]; exact Blk.set3
  replace hs := hs.trans hbw
  replace Blwide := hG.bx Blwide (notMem1 (by omega))
  replace Blf := hG.bx Blf (notMem1 (by omega))
  replace Blk := Bl1k
  clear Bl1k
  replace hlo := hlo.keep hk
  replace hhi := hhi.keep hk
  replace h1 := h1.keep hk
  replace h2 := h2.keep hk
  replace h3 := h3.keep hk
  replace h4 := h4.keep hk
  replace h5 := h5.keep hk
  clear hW hG hk hbw hsz lk
  try simp only [Act.put, List.setIfInBounds_toArray, List.set_cons_zero, List.set_cons_succ]
  clear cwide_0 cwide_1 cwide_2 cwide_3 cwide_4 cwide_5 cf_0 cf_1 cf_2
  go_wp2
  have ck_0 : w9.cell? ⟨w.heap.size, 0, none⟩ = some (.bool sh5) := Blk.at 0 rfl
  have ck_1 : w9.cell? ⟨w.heap.size, 1, none⟩ = some (.slice ah5 nh5 ch5) := Blk.at 1 rfl
  have ck_2 : w9.cell? ⟨w.heap.size, 2, none⟩ = some (.slice Ah5 Nh5 Ch5) := Blk.at 2 rfl
  exact bodyPost_ret (v := .agg #[.bool sh5, .slice ah5 nh5 ch5, .slice Ah5 Nh5 Ch5]) (by simp [results, Tryz.results49, go_sem, ck_0, ck_1, ck_2]) rfl ⟨_, rfl, h5, hs⟩
end Go.Proofs.YtlfnapfnpkhggaaGreat
/-
  scan's tables: Value, Porosity, over checkSteps and value.
-/
namespace Go.Proofs.YtlfnapfnpkhggaaGreat
open Go.RowKit Dg
attribute [local go_sem ↓] Go.wp_at_zero Go.wp_at_succ

/-- What Value hands back. -/
def fullV (T : List Stp) (x : Rat) : Rat × Int := if tabE T = 0 then valQ T x else (0, tabE T)

set_option maxRecDepth 100000 in
set_option maxHeartbeats 16000000 in
theorem sc_Value_ok (v : Value) (T : List Stp) (vx : Value) (x q : Rat) (c : Int) (w : World) (hl : Rows 6 113 (C2 PC) w v T) (hz : TabSz T) (hx : PV w vx x) (sx : SzQ 100 x) (h1 : 1 ≤ T.length) (hte : tabE T = 0) (hv : valQ T x = (q, c)) :
    Calls Tryz.prog 45 #[v, vx] w (Ret2 (fun w v => PV w v q) (fun _ v => v = .int .i64 c) w) := by
  obtain ⟨rb, ro, rc, rfl, hc1, hc2, -⟩ := hl.open_ (by omega)
  have hs := Below.refl w.heap.size w
  have HL := Lib.hid hl
  clear hl
  obtain ⟨shx, ahx, nhx, chx, Ahx, Nhx, Chx, rfl⟩ := hx.shape
  have HZ := Lib.hid hz
  have HTE := Lib.hid hte
  have HVQ := Lib.hid hv
  clear hz hv hte
  go_enter Tryz.func45, Tryz.ntmps45
  go_wp2_with fail
  refine Calls.abs ?_
  intro w1 hW
  have hG : Gr [] w w1 := by rw [hW]; exact (Gr.refl _ _).alloc.alloc
  have hbw : Below w.heap.size w w1 := hG.below0 hs.size
  have hk : KeepD w w1 := hG.keep True.intro
  have sz_w1 : w.heap.size ≤ w.heap.size := hs.size
  have Blat : Bx w1 (w.heap.size) 40 #[.bool shx, .slice ahx nhx chx, .slice Ahx Nhx Chx] := by rw [hW]; exact ((Bx.new0 _ _ _).alloc _)
  have Blk : Bx w1 (w.heap.size + 1) 40 #[.bool false, .slice none 0 0, .slice none 0 0] := by rw [hW]; exact (Bx.new0 _ _ _)
  replace hs := hs.trans hbw
  replace hx := hx.keep hk
  clear hW hG hk hbw
  have hz_w1 : w.heap.size + 1 < w1.heap.size := Blk.lt
  with_reducible refine (sc_checkSteps _ T _ _ (HL.out.mono (C2.kept PC.kept) hs) HZ.out HTE.out).mono ?_
  rintro e w2 ⟨rfl, hb⟩
  replace hs := bStep hs hb
  replace Blat := Blat.mono hb
  replace Blk := Blk.mono hb
  replace hx := hx.mono hb
  clear hb
  have cat_0 : w2.cell? ⟨w.heap.size, 0, none⟩ = some (.bool shx) := Blat.at 0 rfl
  have cat_1 : w2.cell? ⟨w.heap.size, 1, none⟩ = some (.slice ahx nhx chx) := Blat.at 1 rfl
  have cat_2 : w2.cell? ⟨w.heap.size, 2, none⟩ = some (.slice Ahx Nhx Chx) := Blat.at 2 rfl
  have Lat : w.heap.size < w2.heap.size := Blat.lt
  go_wp2_with fail
  clear cat_0 cat_1 cat_2 Lat
  with_reducible refine (sc_value _ T _ x q _ _ (HL.out.mono (C2.kept PC.kept) hs) h1 HZ.out hx sx HVQ.out).mono ?_
  rintro e w3 ⟨_, _, rfl, h1, rfl, hb⟩
  obtain ⟨sh1, ah1, nh1, ch1, Ah1, Nh1, Ch1, rfl⟩ := h1.shape
  replace hs := bStep hs hb
  replace Blat := Blat.mono hb
  replace Blk := Blk.mono hb
  replace hx := hx.mono hb
  clear hb
  have ck_0 : w3.cell? ⟨w.heap.size + 1, 0, none⟩ = some (.bool false) := Blk.at 0 rfl
  have ck_1 : w3.cell? ⟨w.heap.size + 1, 1, none⟩ = some (.slice none 0 0) := Blk.at 1 rfl
  have ck_2 : w3.cell? ⟨w.heap.size + 1, 2, none⟩ = some (.slice none 0 0) := Blk.at 2 rfl
  have fk := Blk.free
  have Lk : w.heap.size + 1 < w3.heap.size := Blk.lt
  go_wp2
  clear ck_0 ck_1 ck_2 fk Lk
  refine bodyPost.abs ?_
  intro w4 hW
  have hG : Gr [w.heap.size + 1] w3 w4 := by rw [hW]; exact (Gr.refl _ _).set.set.set
  have hsz := hs.size
  have lk := Blk.lt
  have hbw : Below w.heap.size w3 w4 := hG.below1 hs.size (by first | omega | assumption)
  have hk : KeepD w3 w4 := hG.keep ⟨⟨_, Blk.ty, by decide⟩, True.intro⟩
  have Bl1k : Bx w4 (w.heap.size + 1) 40 #[.bool sh1, .slice ah1 nh1 ch1, .slice Ah1 Nh1 Ch1] := by rw [hW]; exact Blk.set3
  replace hs := hs.trans hbw
  replace Blat := hG.bx Blat (notMem1 (by omega))
  replace Blk := Bl1k
  clear Bl1k
  replace hx := hx.keep hk
  replace h1 := h1.keep hk
  clear hW hG hk hbw hsz lk
  have ck_0 : w4.cell? ⟨w.heap.size + 1, 0, none⟩ = some (.bool sh1) := Blk.at 0 rfl
  have ck_1 : w4.cell? ⟨w.heap.size + 1, 1, none⟩ = some (.slice ah1 nh1 ch1) := Blk.at 1 rfl
  have ck_2 : w4.cell? ⟨w.heap.size + 1, 2, none⟩ = some (.slice Ah1 Nh1 Ch1) := Blk.at 2 rfl
  exact bodyPost_ret (v := .tuple #[.agg #[.bool sh1, .slice ah1 nh1 ch1, .slice Ah1 Nh1 Ch1], .int .i64 c]) (by simp [results, Tryz.results45, go_sem, ck_0, ck_1, ck_2]) rfl ⟨_, _, rfl, h1, rfl, hs⟩

set_option maxRecDepth 100000 in
set_option maxHeartbeats 16000000 in
theorem sc_Value_bad (v : Value) (T : List Stp) (vx : Value) (x : Rat) (c : Int) (w : World) (hl : Rows 6 113 (C2 PC) w v T) (hz : TabSz T) (hx : PV w vx x) (sx : SzQ 100 x) (hte : tabE T = c) (hc : ¬ c = 0) :
    Calls Tryz.prog 45 #[v, vx] w (Ret2 (fun w v => PV w v 0) (fun _ v => v = .int .i64 c) w) := by
  obtain ⟨ao, rc, rfl, hc1, hc2, hc3⟩ := hl.slice
  have hs := Below.refl w.heap.size w
  have HL := Lib.hid hl
  clear hl
  obtain ⟨shx, ahx, nhx, chx, Ahx, Nhx, Chx, rfl⟩ := hx.shape
  have HZ := Lib.hid hz
  have HTE := Lib.hid hte
  have HN := Lib.hid hc
  clear hz hte hc
  go_enter Tryz.func45, Tryz.ntmps45
  go_wp2_with fail
  refine Calls.abs ?_
  intro w1 hW
  have hG : Gr [] w w1 := by rw [hW]; exact (Gr.refl _ _).alloc.alloc
  have hbw : Below w.heap.size w w1 := hG.below0 hs.size
  have hk : KeepD w w1 := hG.keep True.intro
  have sz_w1 : w.heap.size ≤ w.heap.size := hs.size
  have Blat : Bx w1 (w.heap.size) 40 #[.bool shx, .slice ahx nhx chx, .slice Ahx Nhx Chx] := by rw [hW]; exact ((Bx.new0 _ _ _).alloc _)
  have Blk : Bx w1 (w.heap.size + 1) 40 #[.bool false, .slice none 0 0, .slice none 0 0] := by rw [hW]; exact (Bx.new0 _ _ _)
  replace hs := hs.trans hbw
  replace hx := hx.keep hk
  clear hW hG hk hbw
  have hz_w1 : w.heap.size + 1 < w1.heap.size := Blk.lt
  with_reducible refine (sc_checkSteps _ T _ c (HL.out.mono (C2.kept PC.kept) hs) HZ.out HTE.out).mono ?_
  rintro e w2 ⟨rfl, hb⟩
  replace hs := bStep hs hb
  replace Blat := Blat.mono hb
  replace Blk := Blk.mono hb
  replace hx := hx.mono hb
  clear hb
  have q1 : ¬ (c = 0) := HN.out
  have q1b : (c == 0) = false := by simp; omega
  have q1n : (c != 0) = true := by simp; omega
  have ck_0 : w2.cell? ⟨w.heap.size + 1, 0, none⟩ = some (.bool false) := Blk.at 0 rfl
  have ck_1 : w2.cell? ⟨w.heap.size + 1, 1, none⟩ = some (.slice none 0 0) := Blk.at 1 rfl
  have ck_2 : w2.cell? ⟨w.heap.size + 1, 2, none⟩ = some (.slice none 0 0) := Blk.at 2 rfl
  have fk := Blk.free
  have Lk : w.heap.size + 1 < w2.heap.size := Blk.lt
  go_wp2
  clear ck_0 ck_1 ck_2 fk Lk
  refine bodyPost.abs ?_
  intro w3 hW
  have hG : Gr [w.heap.size + 1] w2 w3 := by rw [hW]; exact (Gr.refl _ _).set.set.set
  have hsz := hs.size
  have lk := Blk.lt
  have hbw : Below w.heap.size w2 w3 := hG.below1 hs.size (by first | omega | assumption)
  have hk : KeepD w2 w3 := hG.keep ⟨⟨_, Blk.ty, by decide⟩, True.intro⟩
  have Bl1k : Bx w3 (w.heap.size + 1) 40 #[.bool false, .slice none 0 0, .slice none 0 0] := by rw [hW]; exact Blk.set3
  replace hs := hs.trans hbw
  replace Blat := hG.bx Blat (notMem1 (by omega))
  replace Blk := Bl1k
  clear Bl1k
  replace hx := hx.keep hk
  clear hW hG hk hbw hsz lk
  have ck_0 : w3.cell? ⟨w.heap.size + 1, 0, none⟩ = some (.bool false) := Blk.at 0 rfl
  have ck_1 : w3.cell? ⟨w.heap.size + 1, 1, none⟩ = some (.slice none 0 0) := Blk.at 1 rfl
  have ck_2 : w3.cell? ⟨w.heap.size + 1, 2, none⟩ = some (.slice none 0 0) := Blk.at 2 rfl
  exact bodyPost_ret (v := .tuple #[.agg #[.bool false, .slice none 0 0, .slice none 0 0], .int .i64 c]) (by simp [results, Tryz.results45, go_sem, ck_0, ck_1, ck_2]) rfl ⟨_, _, rfl, (PV.zero _), rfl, hs⟩

theorem sc_Value (v : Value) (T : List Stp) (vx : Value) (x q : Rat) (c : Int) (w : World) (hl : Rows 6 113 (C2 PC) w v T) (hz : TabSz T) (hx : PV w vx x) (sx : SzQ 100 x) (hv : fullV T x = (q, c)) :
    Calls Tryz.prog 45 #[v, vx] w (Ret2 (fun w v => PV w v q) (fun _ v => v = .int .i64 c) w) := by
  unfold fullV at hv
  by_cases h : tabE T = 0
  · rw [if_pos h] at hv
    exact sc_Value_ok v T vx x q c w hl hz hx sx (tabE_ok h).1 h hv
  · rw [if_neg h] at hv
    cases hv
    exact sc_Value_bad v T vx x _ w hl hz hx sx rfl h

/-- What Porosity hands back. -/
def porQ (T : List Stp) (lo hi : Rat) : Rat × Rat × Int :=
  if tabE T = 0 then (if risB T T.length = false then (0, 0, 7) else if (valQ T lo).2 = 0 then (if (valQ T hi).2 = 0 then ((valQ T lo).1, (valQ T hi).1, 0) else (0, 0, 5)) else (0, 0, 5)) else (0, 0, tabE T)
theorem porQ_fall {T : List Stp} {lo hi : Rat} (h : tabE T = 0) (h1 : risB T T.length = false) : porQ T lo hi = (0, 0, 7) := by unfold porQ; rw [if_pos h, if_pos h1]
theorem porQ_lo {T : List Stp} {lo hi q : Rat} {c : Int} (h : tabE T = 0) (h1 : risB T T.length = true) (h2 : valQ T lo = (q, c)) (h3 : ¬ c = 0) : porQ T lo hi = (0, 0, c) := by
  have h4 : (0, 5) = (q, c) := by
    rcases valQ_err T lo with e | e
    · rw [h2] at e; exact absurd e h3
    · rw [← e, h2]
  cases h4
  unfold porQ; rw [if_pos h, if_neg (by rw [h1]; simp), h2, if_neg h3]
theorem porQ_hi {T : List Stp} {lo hi q r : Rat} {c d : Int} (h : tabE T = 0) (h1 : risB T T.length = true) (h2 : valQ T lo = (q, c)) (h3 : c = 0) (h4 : valQ T hi = (r, d)) (h5 : ¬ d = 0) : porQ T lo hi = (0, 0, d) := by
  have h6 : (0, 5) = (r, d) := by
    rcases valQ_err T hi with e | e
    · rw [h4] at e; exact absurd e h5
    · rw [← e, h4]
  cases h6
  unfold porQ; rw [if_pos h, if_neg (by rw [h1]; simp), h2, if_pos h3, h4, if_neg h5]
theorem porQ_ok {T : List Stp} {lo hi q r : Rat} {c d : Int} (h : tabE T = 0) (h1 : risB T T.length = true) (h2 : valQ T lo = (q, c)) (h3 : c = 0) (h4 : valQ T hi = (r, d)) (h5 : d = 0) : porQ T lo hi = (q, r, 0) := by
  unfold porQ; rw [if_pos h, if_neg (by rw [h1]; simp), h2, if_pos h3, h4, if_pos h5]
theorem por_le {T : List Stp} {lo hi q r : Rat} {c d : Int} (h : tabE T = 0) (h1 : risB T T.length = true) (h2 : valQ T lo = (q, c)) (h3 : c = 0) (h4 : valQ T hi = (r, d)) (h5 : d = 0) (hle : lo ≤ hi) : q ≤ r := by
  have := valQ_mono (ascB_asc _ (tabE_ok h).2.2) (risB_ris _ h1) (by rw [h2]; exact h3) (by rw [h4]; exact h5) hle
  rwa [h2, h4] at this

set_option maxRecDepth 100000 in
set_option maxHeartbeats 16000000 in
theorem sc_Porosity_ok (v : Value) (T : List Stp) (vr : Value) (lo hi a b : Rat) (c : Int) (w : World) (hl : Rows 6 113 (C2 PC) w v T) (hz : TabSz T) (hr : PV2 w vr lo hi) (slo : SzQ 100 lo) (shi : SzQ 100 hi) (hle : lo ≤ hi) (hte : tabE T = 0) (hv : porQ T lo hi = (a, b, c)) (h1 : 1 ≤ T.length) :
    Calls Tryz.prog 50 #[v, vr] w (Ret2 (fun w v => PV2 w v a b) (fun _ v => v = .int .i64 c) w) := by
  obtain ⟨rb, ro, rc, rfl, hc1, hc2, -⟩ := hl.open_ (by omega)
  have hs := Below.refl w.heap.size w
  have HL := Lib.hid hl
  clear hl
  obtain ⟨shlo, ahlo, nhlo, chlo, Ahlo, Nhlo, Chlo, shhi, ahhi, nhhi, chhi, Ahhi, Nhhi, Chhi, rfl, hlo, hhi⟩ := hr.shape
  clear hr
  have HZ := Lib.hid hz
  have HTE := Lib.hid hte
  obtain ⟨vl, cl, hvl⟩ : ∃ q c, valQ T lo = (q, c) := ⟨_, _, rfl⟩
  obtain ⟨vh, ch, hvh⟩ : ∃ q c, valQ T hi = (q, c) := ⟨_, _, rfl⟩
  have svl : SzQ 400 vl := by have := valQ_sz hz slo; rwa [hvl] at this
  have svh : SzQ 400 vh := by have := valQ_sz hz shi; rwa [hvh] at this
  have HVL := Lib.hid hvl
  have HVH := Lib.hid hvh
  have HLE := Lib.hid hle
  have HPQ := Lib.hid hv
  clear hz hv hte hvl hvh hle
  go_enter Tryz.func50, Tryz.ntmps50
  go_wp2_with fail
  refine Calls.abs ?_
  intro w1 hW
  have hG : Gr [] w w1 := by rw [hW]; exact (Gr.refl _ _).alloc.alloc
  have hbw : Below w.heap.size w w1 := hG.below0 hs.size
  have hk : KeepD w w1 := hG.keep True.intro
  have sz_w1 : w.heap.size ≤ w.heap.size := hs.size
  have Blloss : Bx w1 (w.heap.size) 86 #[.bool shlo, .slice ahlo nhlo chlo, .slice Ahlo Nhlo Chlo, .bool shhi, .slice ahhi nhhi chhi, .slice Ahhi Nhhi Chhi] := by rw [hW]; exact ((Bx.new0 _ _ _).alloc _)
  have Blk : Bx w1 (w.heap.size + 1) 86 #[.bool false, .slice none 0 0, .slice none 0 0, .bool false, .slice none 0 0, .slice none 0 0] := by rw [hW]; exact (Bx.new0 _ _ _)
  replace hs := hs.trans hbw
  replace hlo := hlo.keep hk
  replace hhi := hhi.keep hk
  clear hW hG hk hbw
  have hz_w1 : w.heap.size + 1 < w1.heap.size := Blk.lt
  with_reducible refine (sc_checkSteps _ T _ _ (HL.out.mono (C2.kept PC.kept) hs) HZ.out HTE.out).mono ?_
  rintro e w2 ⟨rfl, hb⟩
  replace hs := bStep hs hb
  replace Blloss := Blloss.mono hb
  replace Blk := Blk.mono hb
  replace hlo := hlo.mono hb
  replace hhi := hhi.mono hb
  clear hb
  go_wp2
  go_loopw [7] (fun s7 wq => ∃ k : Nat, 1 ≤ k ∧ k ≤ T.length ∧ s7 = .int .i64 k ∧ Below w.heap.size w wq ∧ Bx wq (w.heap.size) 86 #[.bool shlo, .slice ahlo nhlo chlo, .slice Ahlo Nhlo Chlo, .bool shhi, .slice ahhi nhhi chhi, .slice Ahhi Nhhi Chhi] ∧ Bx wq (w.heap.size + 1) 86 #[.bool false, .slice none 0 0, .slice none 0 0, .bool false, .slice none 0 0, .slice none 0 0] ∧ PV wq (.agg #[.bool shlo, .slice ahlo nhlo chlo, .slice Ahlo Nhlo Chlo]) (lo) ∧ PV wq (.agg #[.bool shhi, .slice ahhi nhhi chhi, .slice Ahhi Nhhi Chhi]) (hi) ∧ (risB T k = true)) (fun s7 _ => T.length - (intOf s7).toNat)
  case atStart => exact ⟨1, Nat.le_refl _, by omega, rfl, hs, Blloss, Blk, hlo, hhi, risB_one T⟩
  case round =>
    clear Blloss Blk hlo hhi hs
    obtain ⟨k, k_ge, k_le, rfl, hs, Blloss, Blk, hlo, hhi, HE⟩ := hrel
    replace HE := Lib.hid HE
    by_cases q1 : k < T.length
    · have q1d : ((k : Int) < (T.length : Int)) = True := eq_true (by omega)
      go_upto_region 7 with fail
      obtain ⟨ge2a, ae2a, ne2a, ce2a, Ae2a, Ne2a, De2a, ge2b, ae2b, ne2b, ce2b, Ae2b, Ne2b, De2b, Ee20, Ee21, Ee22, Ee23, Ee24, Ee25, he2a, he2b, le2⟩ := rowSP_at (HL.out.mono (C2.kept PC.kept) hs) (show k < T.length by omega)
      have SW3a := IntWalk.i64_in ((k : Int) - 1) (by omega)
      have SW3b : (0 : Int) ≤ (k : Int) - 1 := by omega
      have SW3c : ((k : Int) - 1).toNat = (k - 1) := by omega
      have SW3d : (k : Int) - 1 < (T.length : Int) := by omega
      have SW3e : (1 : Int) ≤ (k : Int) := by omega
      have SW3f : (k : Int) < (T.length : Int) + 1 := by omega
      obtain ⟨ge4a, ae4a, ne4a, ce4a, Ae4a, Ne4a, De4a, ge4b, ae4b, ne4b, ce4b, Ae4b, Ne4b, De4b, Ee40, Ee41, Ee42, Ee43, Ee44, Ee45, he4a, he4b, le4⟩ := rowSP_at (HL.out.mono (C2.kept PC.kept) hs) (show (k - 1) < T.length by omega)
      obtain ⟨sg5, Hsg5⟩ : ∃ s : Int, s = sgQ ((vaQ T k) - (vaQ T (k - 1))) := ⟨_, rfl⟩
      replace Hsg5 := Lib.hid Hsg5
      have hb := bDrew wr
      replace hs := bStep hs hb
      replace Blloss := Blloss.mono hb
      replace Blk := Blk.mono hb
      replace hlo := hlo.mono hb
      replace hhi := hhi.mono hb
      replace he2a := he2a.mono hb
      replace he2b := he2b.mono hb
      replace he4a := he4a.mono hb
      replace he4b := he4b.mono hb
      replace Ee20 := cellK Ee20 hb
      replace Ee21 := cellK Ee21 hb
      replace Ee22 := cellK Ee22 hb
      replace Ee23 := cellK Ee23 hb
      replace Ee24 := cellK Ee24 hb
      replace Ee25 := cellK Ee25 hb
      replace Ee40 := cellK Ee40 hb
      replace Ee41 := cellK Ee41 hb
      replace Ee42 := cellK Ee42 hb
      replace Ee43 := cellK Ee43 hb
      replace Ee44 := cellK Ee44 hb
      replace Ee45 := cellK Ee45 hb
      clear hb
      go_region_held3 (fun w' => w'.cell? ⟨rb, ro + k * 6, none⟩ = some (.bool ge2a) ∧ w'.cell? ⟨rb, ro + k * 6 + 1, none⟩ = some (.slice ae2a ne2a ce2a) ∧ w'.cell? ⟨rb, ro + k * 6 + 2, none⟩ = some (.slice Ae2a Ne2a De2a) ∧ w'.cell? ⟨rb, ro + k * 6 + 3, none⟩ = some (.bool ge2b) ∧ w'.cell? ⟨rb, ro + k * 6 + 4, none⟩ = some (.slice ae2b ne2b ce2b) ∧ w'.cell? ⟨rb, ro + k * 6 + 5, none⟩ = some (.slice Ae2b Ne2b De2b) ∧ w'.cell? ⟨rb, ro + (k - 1) * 6, none⟩ = some (.bool ge4a) ∧ w'.cell? ⟨rb, ro + (k - 1) * 6 + 1, none⟩ = some (.slice ae4a ne4a ce4a) ∧ w'.cell? ⟨rb, ro + (k - 1) * 6 + 2, none⟩ = some (.slice Ae4a Ne4a De4a) ∧ w'.cell? ⟨rb, ro + (k - 1) * 6 + 3, none⟩ = some (.bool ge4b) ∧ w'.cell? ⟨rb, ro + (k - 1) * 6 + 4, none⟩ = some (.slice ae4b ne4b ce4b) ∧ w'.cell? ⟨rb, ro + (k - 1) * 6 + 5, none⟩ = some (.slice Ae4b Ne4b De4b))
        (first | exact ⟨Ee20, Ee21, Ee22, Ee23, Ee24, Ee25, Ee40, Ee41, Ee42, Ee43, Ee44, Ee45⟩ | exact ⟨cellA Ee20 _, cellA Ee21 _, cellA Ee22 _, cellA Ee23 _, cellA Ee24 _, cellA Ee25 _, cellA Ee40 _, cellA Ee41 _, cellA Ee42 _, cellA Ee43 _, cellA Ee44 _, cellA Ee45 _⟩ | go_keep)
        (first
          | (go_at_call 21; (with_reducible refine (pCmp he2b he4b (SzQ.fit ((HZ.out k (by omega)).2)) (SzQ.fit ((HZ.out (k - 1) (by omega)).2))).mono ?_); rintro e w23 ⟨rfl, hb⟩; replace hs := bStep hs hb; replace Blloss := Blloss.mono hb; replace Blk := Blk.mono hb; replace hlo := hlo.mono hb; replace hhi := hhi.mono hb; replace he2a := he2a.mono hb; replace he2b := he2b.mono hb; replace he4a := he4a.mono hb; replace he4b := he4b.mono hb; replace Ee20 := cellK Ee20 hb; replace Ee21 := cellK Ee21 hb; replace Ee22 := cellK Ee22 hb; replace Ee23 := cellK Ee23 hb; replace Ee24 := cellK Ee24 hb; replace Ee25 := cellK Ee25 hb; replace Ee40 := cellK Ee40 hb; replace Ee41 := cellK Ee41 hb; replace Ee42 := cellK Ee42 hb; replace Ee43 := cellK Ee43 hb; replace Ee44 := cellK Ee44 hb; replace Ee45 := cellK Ee45 hb; clear hb; rw [← Hsg5.out]))
      clear Ee20 Ee21 Ee22 Ee23 Ee24 Ee25 Ee40 Ee41 Ee42 Ee43 Ee44 Ee45
      by_cases q6 : vaQ T k < vaQ T (k - 1)
      · have q6_ : sg5 < 0 := by have h := sq_lt (vaQ T k) (vaQ T (k - 1)); rw [← Hsg5.out] at h; exact h.2 q6
        have q6H := Lib.hid q6
        clear q6
        have q6d : decide (sg5 < 0) = true := decide_eq_true q6_
        have HQ1 := (porQ_fall HTE.out (risB_bad (by omega) (by omega) q6H.out)).symm.trans HPQ.out
        obtain ⟨HQa, HQbc⟩ := Prod.mk.inj HQ1
        obtain ⟨HQb, HQc⟩ := Prod.mk.inj HQbc
        replace HQa := Lib.hid HQa
        replace HQb := Lib.hid HQb
        replace HQc := Lib.hid HQc
        clear HQ1 HQbc
        have ck_0 : w23.cell? ⟨w.heap.size + 1, 0, none⟩ = some (.bool false) := Blk.at 0 rfl
        have ck_1 : w23.cell? ⟨w.heap.size + 1, 1, none⟩ = some (.slice none 0 0) := Blk.at 1 rfl
        have ck_2 : w23.cell? ⟨w.heap.size + 1, 2, none⟩ = some (.slice none 0 0) := Blk.at 2 rfl
        have ck_3 : w23.cell? ⟨w.heap.size + 1, 3, none⟩ = some (.bool false) := Blk.at 3 rfl
        have ck_4 : w23.cell? ⟨w.heap.size + 1, 4, none⟩ = some (.slice none 0 0) := Blk.at 4 rfl
        have ck_5 : w23.cell? ⟨w.heap.size + 1, 5, none⟩ = some (.slice none 0 0) := Blk.at 5 rfl
        have fk := Blk.free
        have Lk : w.heap.size + 1 < w23.heap.size := Blk.lt
        go_wp2
        clear ck_0 ck_1 ck_2 ck_3 ck_4 ck_5 fk Lk le2 le4
        refine bodyPost.abs ?_
        intro w24 hW
        have hG : Gr [w.heap.size + 1] w23 w24 := by rw [hW]; exact (Gr.refl _ _).set.set.set.set.set.set
        have hsz := hs.size
        have lk := Blk.lt
        have hbw : Below w.heap.size w23 w24 := hG.below1 hs.size (by first | omega | assumption)
        have hk : KeepD w23 w24 := hG.keep ⟨⟨_, Blk.ty, by decide⟩, True.intro⟩
        have Bl1k : Bx w24 (w.heap.size + 1) 86 #[.bool false, .slice none 0 0, .slice none 0 0, .bool false, .slice none 0 0, .slice none 0 0] := by rw [hW]; exact Blk.set6
        replace hs := hs.trans hbw
        replace Blloss := hG.bx Blloss (notMem1 (by omega))
        replace Blk := Bl1k
        clear Bl1k
        replace hlo := hlo.keep hk
        replace hhi := hhi.keep hk
        replace he2a := he2a.keep hk
        replace he2b := he2b.keep hk
        replace he4a := he4a.keep hk
        replace he4b := he4b.keep hk
        clear hW hG hk hbw hsz lk
        have ck_0 : w24.cell? ⟨w.heap.size + 1, 0, none⟩ = some (.bool false) := Blk.at 0 rfl
        have ck_1 : w24.cell? ⟨w.heap.size + 1, 1, none⟩ = some (.slice none 0 0) := Blk.at 1 rfl
        have ck_2 : w24.cell? ⟨w.heap.size + 1, 2, none⟩ = some (.slice none 0 0) := Blk.at 2 rfl
        have ck_3 : w24.cell? ⟨w.heap.size + 1, 3, none⟩ = some (.bool false) := Blk.at 3 rfl
        have ck_4 : w24.cell? ⟨w.heap.size + 1, 4, none⟩ = some (.slice none 0 0) := Blk.at 4 rfl
        have ck_5 : w24.cell? ⟨w.heap.size + 1, 5, none⟩ = some (.slice none 0 0) := Blk.at 5 rfl
        exact bodyPost_ret (v := .tuple #[.agg #[.bool false, .slice none 0 0, .slice none 0 0, .bool false, .slice none 0 0, .slice none 0 0], .int .i64 7]) (by simp [results, Tryz.results50, go_sem, ck_0, ck_1, ck_2, ck_3, ck_4, ck_5]) rfl ⟨_, _, rfl, PV2.mk ((PV.zero _).of_eq HQa.out) ((PV.zero _).of_eq HQb.out), congrArg (Value.int .i64) HQc.out, hs⟩
      · have q6_ : ¬ (sg5 < 0) := by have h := sq_lt (vaQ T k) (vaQ T (k - 1)); rw [← Hsg5.out] at h; exact fun h1 => q6 (h.1 h1)
        have q6H := Lib.hid q6
        clear q6
        have q6d : decide (sg5 < 0) = false := decide_eq_false q6_
        go_wp2
        go_roundw
        case rel => exact ⟨k + 1, by omega, by omega, by go_num, hs, Blloss, Blk, hlo, hhi, risB_step HE.out q6H.out⟩
        all_goals first | (simp [intOf]; done) | (simp [intOf]; omega)
    · have q1d : ((k : Int) < (T.length : Int)) = False := eq_false (by omega)
      have HRT := Lib.hid (show risB T T.length = true from (show k = T.length by omega) ▸ HE.out)
      have closs_0 : wr.cell? ⟨w.heap.size, 0, none⟩ = some (.bool shlo) := Blloss.at 0 rfl
      have closs_1 : wr.cell? ⟨w.heap.size, 1, none⟩ = some (.slice ahlo nhlo chlo) := Blloss.at 1 rfl
      have closs_2 : wr.cell? ⟨w.heap.size, 2, none⟩ = some (.slice Ahlo Nhlo Chlo) := Blloss.at 2 rfl
      have closs_3 : wr.cell? ⟨w.heap.size, 3, none⟩ = some (.bool shhi) := Blloss.at 3 rfl
      have closs_4 : wr.cell? ⟨w.heap.size, 4, none⟩ = some (.slice ahhi nhhi chhi) := Blloss.at 4 rfl
      have closs_5 : wr.cell? ⟨w.heap.size, 5, none⟩ = some (.slice Ahhi Nhhi Chhi) := Blloss.at 5 rfl
      have Lloss : w.heap.size < wr.heap.size := Blloss.lt
      go_wp2_with fail
      clear closs_0 closs_1 closs_2 closs_3 closs_4 closs_5 Lloss
      with_reducible refine (p_Lo _ _ _ _ (PV2.mk hlo hhi)).mono ?_
      rintro e w23 ⟨_, rfl, h2, hb⟩
      obtain ⟨sh2, ah2, nh2, ch2, Ah2, Nh2, Ch2, rfl⟩ := h2.shape
      replace hs := bStep hs hb
      replace Blloss := Blloss.mono hb
      replace Blk := Blk.mono hb
      replace hlo := hlo.mono hb
      replace hhi := hhi.mono hb
      clear hb
      go_wp2_with fail
      with_reducible refine (sc_value _ T _ lo vl cl _ (HL.out.mono (C2.kept PC.kept) hs) h1 HZ.out h2 slo HVL.out).mono ?_
      rintro e w24 ⟨_, _, rfl, h3, rfl, hb⟩
      obtain ⟨sh3, ah3, nh3, ch3, Ah3, Nh3, Ch3, rfl⟩ := h3.shape
      replace hs := bStep hs hb
      replace Blloss := Blloss.mono hb
      replace Blk := Blk.mono hb
      replace hlo := hlo.mono hb
      replace hhi := hhi.mono hb
      replace h2 := h2.mono hb
      clear hb
      by_cases q4 : cl = 0
      · have q4b : (cl == 0) = true := by simp; omega
        have q4n : (cl != 0) = false := by simp; omega
        have closs_0 : w24.cell? ⟨w.heap.size, 0, none⟩ = some (.bool shlo) := Blloss.at 0 rfl
        have closs_1 : w24.cell? ⟨w.heap.size, 1, none⟩ = some (.slice ahlo nhlo chlo) := Blloss.at 1 rfl
        have closs_2 : w24.cell? ⟨w.heap.size, 2, none⟩ = some (.slice Ahlo Nhlo Chlo) := Blloss.at 2 rfl
        have closs_3 : w24.cell? ⟨w.heap.size, 3, none⟩ = some (.bool shhi) := Blloss.at 3 rfl
        have closs_4 : w24.cell? ⟨w.heap.size, 4, none⟩ = some (.slice ahhi nhhi chhi) := Blloss.at 4 rfl
        have closs_5 : w24.cell? ⟨w.heap.size, 5, none⟩ = some (.slice Ahhi Nhhi Chhi) := Blloss.at 5 rfl
        have Lloss : w.heap.size < w24.heap.size := Blloss.lt
        go_wp2_with fail
        clear closs_0 closs_1 closs_2 closs_3 closs_4 closs_5 Lloss
        refine Calls.abs ?_
        intro w25 hW
        have hG : Gr [] w24 w25 := by rw [hW]; exact (Gr.refl _ _).alloc
        have hbw : Below w.heap.size w24 w25 := hG.below0 hs.size
        have hk : KeepD w24 w25 := hG.keep True.intro
        have sz_w25 : w.heap.size ≤ w24.heap.size := hs.size
        have nloss_w25 : w.heap.size < w24.heap.size := Blloss.lt
        have nk_w25 : w.heap.size + 1 < w24.heap.size := Blk.lt
        have Bllo : Bx w25 (w24.heap.size) 40 #[.bool sh3, .slice ah3 nh3 ch3, .slice Ah3 Nh3 Ch3] := by rw [hW]; exact (Bx.new0 _ _ _)
        replace hs := hs.trans hbw
        replace Blloss := hG.bx Blloss notMem0
        replace Blk := hG.bx Blk notMem0
        replace hlo := hlo.keep hk
        replace hhi := hhi.keep hk
        replace h2 := h2.keep hk
        replace h3 := h3.keep hk
        clear hW hG hk hbw
        have hz_w25 : w24.heap.size < w25.heap.size := Bllo.lt
        with_reducible refine (p_Hi _ _ _ _ (PV2.mk hlo hhi)).mono ?_
        rintro e w26 ⟨_, rfl, h5, hb⟩
        obtain ⟨sh5, ah5, nh5, ch5, Ah5, Nh5, Ch5, rfl⟩ := h5.shape
        replace hs := bStep hs hb
        replace Blloss := Blloss.mono hb
        replace Blk := Blk.mono hb
        replace Bllo := Bllo.mono hb
        replace hlo := hlo.mono hb
        replace hhi := hhi.mono hb
        replace h2 := h2.mono hb
        replace h3 := h3.mono hb
        clear hb
        go_wp2_with fail
        with_reducible refine (sc_value _ T _ hi vh ch _ (HL.out.mono (C2.kept PC.kept) hs) h1 HZ.out h5 shi HVH.out).mono ?_
        rintro e w27 ⟨_, _, rfl, h6, rfl, hb⟩
        obtain ⟨sh6, ah6, nh6, ch6, Ah6, Nh6, Ch6, rfl⟩ := h6.shape
        replace hs := bStep hs hb
        replace Blloss := Blloss.mono hb
        replace Blk := Blk.mono hb
        replace Bllo := Bllo.mono hb
        replace hlo := hlo.mono hb
        replace hhi := hhi.mono hb
        replace h2 := h2.mono hb
        replace h3 := h3.mono hb
        replace h5 := h5.mono hb
        clear hb
        by_cases q7 : ch = 0
        · have q7b : (ch == 0) = true := by simp; omega
          have q7n : (ch != 0) = false := by simp; omega
          go_upto_region 15 with fail
          refine Code.abs ?_
          intro w28 hW
          have hG : Gr [] w27 w28 := by rw [hW]; exact (Gr.refl _ _).alloc
          have hbw : Below w.heap.size w27 w28 := hG.below0 hs.size
          have hk : KeepD w27 w28 := hG.keep True.intro
          have sz_w28 : w.heap.size ≤ w27.heap.size := hs.size
          have nloss_w28 : w.heap.size < w27.heap.size := Blloss.lt
          have nk_w28 : w.heap.size + 1 < w27.heap.size := Blk.lt
          have nlo_w28 : w24.heap.size < w27.heap.size := Bllo.lt
          have Blhi : Bx w28 (w27.heap.size) 40 #[.bool sh6, .slice ah6 nh6 ch6, .slice Ah6 Nh6 Ch6] := by rw [hW]; exact (Bx.new0 _ _ _)
          replace hs := hs.trans hbw
          replace Blloss := hG.bx Blloss notMem0
          replace Blk := hG.bx Blk notMem0
          replace Bllo := hG.bx Bllo notMem0
          replace hlo := hlo.keep hk
          replace hhi := hhi.keep hk
          replace h2 := h2.keep hk
          replace h3 := h3.keep hk
          replace h5 := h5.keep hk
          replace h6 := h6.keep hk
          clear hW hG hk hbw
          have hz_w28 : w27.heap.size < w28.heap.size := Blhi.lt
          have clo_0 : w28.cell? ⟨w24.heap.size, 0, none⟩ = some (.bool sh3) := Bllo.at 0 rfl
          have clo_1 : w28.cell? ⟨w24.heap.size, 1, none⟩ = some (.slice ah3 nh3 ch3) := Bllo.at 1 rfl
          have clo_2 : w28.cell? ⟨w24.heap.size, 2, none⟩ = some (.slice Ah3 Nh3 Ch3) := Bllo.at 2 rfl
          have Llo : w24.heap.size < w28.heap.size := Bllo.lt
          have chi_0 : w28.cell? ⟨w27.heap.size, 0, none⟩ = some (.bool sh6) := Blhi.at 0 rfl
          have chi_1 : w28.cell? ⟨w27.heap.size, 1, none⟩ = some (.slice ah6 nh6 ch6) := Blhi.at 1 rfl
          have chi_2 : w28.cell? ⟨w27.heap.size, 2, none⟩ = some (.slice Ah6 Nh6 Ch6) := Blhi.at 2 rfl
          have Lhi : w27.heap.size < w28.heap.size := Blhi.lt
          go_wp2_with fail
          clear clo_0 clo_1 clo_2 chi_0 chi_1 chi_2 Llo Lhi
          with_reducible refine (p_Make_le _ _ _ _ _ h3 (SzQ.mid svl) h6 (SzQ.mid svh) (por_le HTE.out HRT.out HVL.out q4 HVH.out q7 HLE.out)).mono ?_
          rintro e w29 ⟨_, _, rfl, h8, rfl, hb⟩
          obtain ⟨sh8a, ah8a, nh8a, ch8a, Ah8a, Nh8a, Ch8a, sh8b, ah8b, nh8b, ch8b, Ah8b, Nh8b, Ch8b, rfl, h8a, h8b⟩ := h8.shape
          replace hs := bStep hs hb
          replace Blloss := Blloss.mono hb
          replace Blk := Blk.mono hb
          replace Bllo := Bllo.mono hb
          replace Blhi := Blhi.mono hb
          replace hlo := hlo.mono hb
          replace hhi := hhi.mono hb
          replace h2 := h2.mono hb
          replace h3 := h3.mono hb
          replace h5 := h5.mono hb
          replace h6 := h6.mono hb
          clear hb
          have HQ1 := (porQ_ok HTE.out HRT.out HVL.out q4 HVH.out q7).symm.trans HPQ.out
          obtain ⟨HQa, HQbc⟩ := Prod.mk.inj HQ1
          obtain ⟨HQb, HQc⟩ := Prod.mk.inj HQbc
          replace HQa := Lib.hid HQa
          replace HQb := Lib.hid HQb
          replace HQc := Lib.hid HQc
          clear HQ1 HQbc
          have ck_0 : w29.cell? ⟨w.heap.size + 1, 0, none⟩ = some (.bool false) := Blk.at 0 rfl
          have ck_1 : w29.cell? ⟨w.heap.size + 1, 1, none⟩ = some (.slice none 0 0) := Blk.at 1 rfl
          have ck_2 : w29.cell? ⟨w.heap.size + 1, 2, none⟩ = some (.slice none 0 0) := Blk.at 2 rfl
          have ck_3 : w29.cell? ⟨w.heap.size + 1, 3, none⟩ = some (.bool false) := Blk.at 3 rfl
          have ck_4 : w29.cell? ⟨w.heap.size + 1, 4, none⟩ = some (.slice none 0 0) := Blk.at 4 rfl
          have ck_5 : w29.cell? ⟨w.heap.size + 1, 5, none⟩ = some (.slice none 0 0) := Blk.at 5 rfl
          have fk := Blk.free
          have Lk : w.heap.size + 1 < w29.heap.size := Blk.lt
          go_wp2
          clear ck_0 ck_1 ck_2 ck_3 ck_4 ck_5 fk Lk
          refine bodyPost.abs ?_
          intro w30 hW
          have hG : Gr [w.heap.size + 1] w29 w30 := by rw [hW]; exact (Gr.refl _ _).set.set.set.set.set.set
          have hsz := hs.size
          have lk := Blk.lt
          have hbw : Below w.heap.size w29 w30 := hG.below1 hs.size (by first | omega | assumption)
          have hk : KeepD w29 w30 := hG.keep ⟨⟨_, Blk.ty, by decide⟩, True.intro⟩
          have Bl1k : Bx w30 (w.heap.size + 1) 86 #[.bool sh8a, .slice ah8a nh8a ch8a, .slice Ah8a Nh8a Ch8a, .bool sh8b, .slice ah8b nh8b ch8b, .slice Ah8b Nh8b Ch8b] := by rw [hW]; exact Blk.set6
          replace hs := hs.trans hbw
          replace Blloss := hG.bx Blloss (notMem1 (by omega))
          replace Bllo := hG.bx Bllo (notMem1 (by omega))
          replace Blhi := hG.bx Blhi (notMem1 (by omega))
          replace Blk := Bl1k
          clear Bl1k
          replace hlo := hlo.keep hk
          replace hhi := hhi.keep hk
          replace h2 := h2.keep hk
          replace h3 := h3.keep hk
          replace h5 := h5.keep hk
          replace h6 := h6.keep hk
          replace h8a := h8a.keep hk
          replace h8b := h8b.keep hk
          clear hW hG hk hbw hsz lk
          have ck_0 : w30.cell? ⟨w.heap.size + 1, 0, none⟩ = some (.bool sh8a) := Blk.at 0 rfl
          have ck_1 : w30.cell? ⟨w.heap.size + 1, 1, none⟩ = some (.slice ah8a nh8a ch8a) := Blk.at 1 rfl
          have ck_2 : w30.cell? ⟨w.heap.size + 1, 2, none⟩ = some (.slice Ah8a Nh8a Ch8a) := Blk.at 2 rfl
          have ck_3 : w30.cell? ⟨w.heap.size + 1, 3, none⟩ = some (.bool sh8b) := Blk.at 3 rfl
          have ck_4 : w30.cell? ⟨w.heap.size + 1, 4, none⟩ = some (.slice ah8b nh8b ch8b) := Blk.at 4 rfl
          have ck_5 : w30.cell? ⟨w.heap.size + 1, 5, none⟩ = some (.slice Ah8b Nh8b Ch8b) := Blk.at 5 rfl
          exact bodyPost_ret (v := .tuple #[.agg #[.bool sh8a, .slice ah8a nh8a ch8a, .slice Ah8a Nh8a Ch8a, .bool sh8b, .slice ah8b nh8b ch8b, .slice Ah8b Nh8b Ch8b], .int .i64 0]) (by simp [results, Tryz.results50, go_sem, ck_0, ck_1, ck_2, ck_3, ck_4, ck_5]) rfl ⟨_, _, rfl, PV2.mk (h8a.of_eq HQa.out) (h8b.of_eq HQb.out), congrArg (Value.int .i64) HQc.out, hs⟩
        · have q7b : (ch == 0) = false := by simp; omega
          have q7n : (ch != 0) = true := by simp; omega
          go_upto_region 14 with fail
          refine Code.abs ?_
          intro w28 hW
          have hG : Gr [] w27 w28 := by rw [hW]; exact (Gr.refl _ _).alloc
          have hbw : Below w.heap.size w27 w28 := hG.below0 hs.size
          have hk : KeepD w27 w28 := hG.keep True.intro
          have sz_w28 : w.heap.size ≤ w27.heap.size := hs.size
          have nloss_w28 : w.heap.size < w27.heap.size := Blloss.lt
          have nk_w28 : w.heap.size + 1 < w27.heap.size := Blk.lt
          have nlo_w28 : w24.heap.size < w27.heap.size := Bllo.lt
          have Blhi : Bx w28 (w27.heap.size) 40 #[.bool sh6, .slice ah6 nh6 ch6, .slice Ah6 Nh6 Ch6] := by rw [hW]; exact (Bx.new0 _ _ _)
          replace hs := hs.trans hbw
          replace Blloss := hG.bx Blloss notMem0
          replace Blk := hG.bx Blk notMem0
          replace Bllo := hG.bx Bllo notMem0
          replace hlo := hlo.keep hk
          replace hhi := hhi.keep hk
          replace h2 := h2.keep hk
          replace h3 := h3.keep hk
          replace h5 := h5.keep hk
          replace h6 := h6.keep hk
          clear hW hG hk hbw
          have hz_w28 : w27.heap.size < w28.heap.size := Blhi.lt
          have HQ1 := (porQ_hi HTE.out HRT.out HVL.out q4 HVH.out q7).symm.trans HPQ.out
          obtain ⟨HQa, HQbc⟩ := Prod.mk.inj HQ1
          obtain ⟨HQb, HQc⟩ := Prod.mk.inj HQbc
          replace HQa := Lib.hid HQa
          replace HQb := Lib.hid HQb
          replace HQc := Lib.hid HQc
          clear HQ1 HQbc
          have ck_0 : w28.cell? ⟨w.heap.size + 1, 0, none⟩ = some (.bool false) := Blk.at 0 rfl
          have ck_1 : w28.cell? ⟨w.heap.size + 1, 1, none⟩ = some (.slice none 0 0) := Blk.at 1 rfl
          have ck_2 : w28.cell? ⟨w.heap.size + 1, 2, none⟩ = some (.slice none 0 0) := Blk.at 2 rfl
          have ck_3 : w28.cell? ⟨w.heap.size + 1, 3, none⟩ = some (.bool false) := Blk.at 3 rfl
          have ck_4 : w28.cell? ⟨w.heap.size + 1, 4, none⟩ = some (.slice none 0 0) := Blk.at 4 rfl
          have ck_5 : w28.cell? ⟨w.heap.size + 1, 5, none⟩ = some (.slice none 0 0) := Blk.at 5 rfl
          have fk := Blk.free
          have Lk : w.heap.size + 1 < w28.heap.size := Blk.lt
          go_wp2
          clear ck_0 ck_1 ck_2 ck_3 ck_4 ck_5 fk Lk
          refine bodyPost.abs ?_
          intro w29 hW
          have hG : Gr [w.heap.size + 1] w28 w29 := by rw [hW]; exact (Gr.refl _ _).set.set.set.set.set.set
          have hsz := hs.size
          have lk := Blk.lt
          have hbw : Below w.heap.size w28 w29 := hG.below1 hs.size (by first | omega | assumption)
          have hk : KeepD w28 w29 := hG.keep ⟨⟨_, Blk.ty, by decide⟩, True.intro⟩
          have Bl1k : Bx w29 (w.heap.size + 1) 86 #[.bool false, .slice none 0 0, .slice none 0 0, .bool false, .slice none 0 0, .slice none 0 0] := by rw [hW]; exact Blk.set6
          replace hs := hs.trans hbw
          replace Blloss := hG.bx Blloss (notMem1 (by omega))
          replace Bllo := hG.bx Bllo (notMem1 (by omega))
          replace Blhi := hG.bx Blhi (notMem1 (by omega))
          replace Blk := Bl1k
          clear Bl1k
          replace hlo := hlo.keep hk
          replace hhi := hhi.keep hk
          replace h2 := h2.keep hk
          replace h3 := h3.keep hk
          replace h5 := h5.keep hk
          replace h6 := h6.keep hk
          clear hW hG hk hbw hsz lk
          have ck_0 : w29.cell? ⟨w.heap.size + 1, 0, none⟩ = some (.bool false) := Blk.at 0 rfl
          have ck_1 : w29.cell? ⟨w.heap.size + 1, 1, none⟩ = some (.slice none 0 0) := Blk.at 1 rfl
          have ck_2 : w29.cell? ⟨w.heap.size + 1, 2, none⟩ = some (.slice none 0 0) := Blk.at 2 rfl
          have ck_3 : w29.cell? ⟨w.heap.size + 1, 3, none⟩ = some (.bool false) := Blk.at 3 rfl
          have ck_4 : w29.cell? ⟨w.heap.size + 1, 4, none⟩ = some (.slice none 0 0) := Blk.at 4 rfl
          have ck_5 : w29.cell? ⟨w.heap.size + 1, 5, none⟩ = some (.slice none 0 0) := Blk.at 5 rfl
          exact bodyPost_ret (v := .tuple #[.agg #[.bool false, .slice none 0 0, .slice none 0 0, .bool false, .slice none 0 0, .slice none 0 0], .int .i64 ch]) (by simp [results, Tryz.results50, go_sem, ck_0, ck_1, ck_2, ck_3, ck_4, ck_5]) rfl ⟨_, _, rfl, PV2.mk ((PV.zero _).of_eq HQa.out) ((PV.zero _).of_eq HQb.out), congrArg (Value.int .i64) HQc.out, hs⟩
      · have q4b : (cl == 0) = false := by simp; omega
        have q4n : (cl != 0) = true := by simp; omega
        go_upto_region 11 with fail
        refine Code.abs ?_
        intro w25 hW
        have hG : Gr [] w24 w25 := by rw [hW]; exact (Gr.refl _ _).alloc
        have hbw : Below w.heap.size w24 w25 := hG.below0 hs.size
        have hk : KeepD w24 w25 := hG.keep True.intro
        have sz_w25 : w.heap.size ≤ w24.heap.size := hs.size
        have nloss_w25 : w.heap.size < w24.heap.size := Blloss.lt
        have nk_w25 : w.heap.size + 1 < w24.heap.size := Blk.lt
        have Bllo : Bx w25 (w24.heap.size) 40 #[.bool sh3, .slice ah3 nh3 ch3, .slice Ah3 Nh3 Ch3] := by rw [hW]; exact (Bx.new0 _ _ _)
        replace hs := hs.trans hbw
        replace Blloss := hG.bx Blloss notMem0
        replace Blk := hG.bx Blk notMem0
        replace hlo := hlo.keep hk
        replace hhi := hhi.keep hk
        replace h2 := h2.keep hk
        replace h3 := h3.keep hk
        clear hW hG hk hbw
        have hz_w25 : w24.heap.size < w25.heap.size := Bllo.lt
        have HQ1 := (porQ_lo HTE.out HRT.out HVL.out q4).symm.trans HPQ.out
        obtain ⟨HQa, HQbc⟩ := Prod.mk.inj HQ1
        obtain ⟨HQb, HQc⟩ := Prod.mk.inj HQbc
        replace HQa := Lib.hid HQa
        replace HQb := Lib.hid HQb
        replace HQc := Lib.hid HQc
        clear HQ1 HQbc
        have ck_0 : w25.cell? ⟨w.heap.size + 1, 0, none⟩ = some (.bool false) := Blk.at 0 rfl
        have ck_1 : w25.cell? ⟨w.heap.size + 1, 1, none⟩ = some (.slice none 0 0) := Blk.at 1 rfl
        have ck_2 : w25.cell? ⟨w.heap.size + 1, 2, none⟩ = some (.slice none 0 0) := Blk.at 2 rfl
        have ck_3 : w25.cell? ⟨w.heap.size + 1, 3, none⟩ = some (.bool false) := Blk.at 3 rfl
        have ck_4 : w25.cell? ⟨w.heap.size + 1, 4, none⟩ = some (.slice none 0 0) := Blk.at 4 rfl
        have ck_5 : w25.cell? ⟨w.heap.size + 1, 5, none⟩ = some (.slice none 0 0) := Blk.at 5 rfl
        have fk := Blk.free
        have Lk : w.heap.size + 1 < w25.heap.size := Blk.lt
        go_wp2
        clear ck_0 ck_1 ck_2 ck_3 ck_4 ck_5 fk Lk
        refine bodyPost.abs ?_
        intro w26 hW
        have hG : Gr [w.heap.size + 1] w25 w26 := by rw [hW]; exact (Gr.refl _ _).set.set.set.set.set.set
        have hsz := hs.size
        have lk := Blk.lt
        have hbw : Below w.heap.size w25 w26 := hG.below1 hs.size (by first | omega | assumption)
        have hk : KeepD w25 w26 := hG.keep ⟨⟨_, Blk.ty, by decide⟩, True.intro⟩
        have Bl1k : Bx w26 (w.heap.size + 1) 86 #[.bool false, .slice none 0 0, .slice none 0 0, .bool false, .slice none 0 0, .slice none 0 0] := by rw [hW]; exact Blk.set6
        replace hs := hs.trans hbw
        replace Blloss := hG.bx Blloss (notMem1 (by omega))
        replace Bllo := hG.bx Bllo (notMem1 (by omega))
        replace Blk := Bl1k
        clear Bl1k
        replace hlo := hlo.keep hk
        replace hhi := hhi.keep hk
        replace h2 := h2.keep hk
        replace h3 := h3.keep hk
        clear hW hG hk hbw hsz lk
        have ck_0 : w26.cell? ⟨w.heap.size + 1, 0, none⟩ = some (.bool false) := Blk.at 0 rfl
        have ck_1 : w26.cell? ⟨w.heap.size + 1, 1, none⟩ = some (.slice none 0 0) := Blk.at 1 rfl
        have ck_2 : w26.cell? ⟨w.heap.size + 1, 2, none⟩ = some (.slice none 0 0) := Blk.at 2 rfl
        have ck_3 : w26.cell? ⟨w.heap.size + 1, 3, none⟩ = some (.bool false) := Blk.at 3 rfl
        have ck_4 : w26.cell? ⟨w.heap.size + 1, 4, none⟩ = some (.slice none 0 0) := Blk.at 4 rfl
        have ck_5 : w26.cell? ⟨w.heap.size + 1, 5, none⟩ = some (.slice none 0 0) := Blk.at 5 rfl
        exact bodyPost_ret (v := .tuple #[.agg #[.bool false, .slice none 0 0, .slice none 0 0, .bool false, .slice none 0 0, .slice none 0 0], .int .i64 cl]) (by simp [results, Tryz.results50, go_sem, ck_0, ck_1, ck_2, ck_3, ck_4, ck_5]) rfl ⟨_, _, rfl, PV2.mk ((PV.zero _).of_eq HQa.out) ((PV.zero _).of_eq HQb.out), congrArg (Value.int .i64) HQc.out, hs⟩

set_option maxRecDepth 100000 in
set_option maxHeartbeats 16000000 in
theorem sc_Porosity_bad (v : Value) (T : List Stp) (vr : Value) (lo hi : Rat) (c : Int) (w : World) (hl : Rows 6 113 (C2 PC) w v T) (hz : TabSz T) (hr : PV2 w vr lo hi) (hte : tabE T = c) (hc : ¬ c = 0) :
    Calls Tryz.prog 50 #[v, vr] w (Ret2 (fun w v => PV2 w v 0 0) (fun _ v => v = .int .i64 c) w) := by
  obtain ⟨ao, rc, rfl, hc1, hc2, hc3⟩ := hl.slice
  have hs := Below.refl w.heap.size w
  have HL := Lib.hid hl
  clear hl
  obtain ⟨shlo, ahlo, nhlo, chlo, Ahlo, Nhlo, Chlo, shhi, ahhi, nhhi, chhi, Ahhi, Nhhi, Chhi, rfl, hlo, hhi⟩ := hr.shape
  clear hr
  have HZ := Lib.hid hz
  have HTE := Lib.hid hte
  have HN := Lib.hid hc
  clear hz hte hc
  go_enter Tryz.func50, Tryz.ntmps50
  go_wp2_with fail
  refine Calls.abs ?_
  intro w1 hW
  have hG : Gr [] w w1 := by rw [hW]; exact (Gr.refl _ _).alloc.alloc
  have hbw : Below w.heap.size w w1 := hG.below0 hs.size
  have hk : KeepD w w1 := hG.keep True.intro
  have sz_w1 : w.heap.size ≤ w.heap.size := hs.size
  have Blloss : Bx w1 (w.heap.size) 86 #[.bool shlo, .slice ahlo nhlo chlo, .slice Ahlo Nhlo Chlo, .bool shhi, .slice ahhi nhhi chhi, .slice Ahhi Nhhi Chhi] := by rw [hW]; exact ((Bx.new0 _ _ _).alloc _)
  have Blk : Bx w1 (w.heap.size + 1) 86 #[.bool false, .slice none 0 0, .slice none 0 0, .bool false, .slice none 0 0, .slice none 0 0] := by rw [hW]; exact (Bx.new0 _ _ _)
  replace hs := hs.trans hbw
  replace hlo := hlo.keep hk
  replace hhi := hhi.keep hk
  clear hW hG hk hbw
  have hz_w1 : w.heap.size + 1 < w1.heap.size := Blk.lt
  with_reducible refine (sc_checkSteps _ T _ c (HL.out.mono (C2.kept PC.kept) hs) HZ.out HTE.out).mono ?_
  rintro e w2 ⟨rfl, hb⟩
  replace hs := bStep hs hb
  replace Blloss := Blloss.mono hb
  replace Blk := Blk.mono hb
  replace hlo := hlo.mono hb
  replace hhi := hhi.mono hb
  clear hb
  have q1 : ¬ (c = 0) := HN.out
  have q1b : (c == 0) = false := by simp; omega
  have q1n : (c != 0) = true := by simp; omega
  have ck_0 : w2.cell? ⟨w.heap.size + 1, 0, none⟩ = some (.bool false) := Blk.at 0 rfl
  have ck_1 : w2.cell? ⟨w.heap.size + 1, 1, none⟩ = some (.slice none 0 0) := Blk.at 1 rfl
  have ck_2 : w2.cell? ⟨w.heap.size + 1, 2, none⟩ = some (.slice none 0 0) := Blk.at 2 rfl
  have ck_3 : w2.cell? ⟨w.heap.size + 1, 3, none⟩ = some (.bool false) := Blk.at 3 rfl
  have ck_4 : w2.cell? ⟨w.heap.size + 1, 4, none⟩ = some (.slice none 0 0) := Blk.at 4 rfl
  have ck_5 : w2.cell? ⟨w.heap.size + 1, 5, none⟩ = some (.slice none 0 0) := Blk.at 5 rfl
  have fk := Blk.free
  have Lk : w.heap.size + 1 < w2.heap.size := Blk.lt
  go_wp2
  clear ck_0 ck_1 ck_2 ck_3 ck_4 ck_5 fk Lk
  refine bodyPost.abs ?_
  intro w3 hW
  have hG : Gr [w.heap.size + 1] w2 w3 := by rw [hW]; exact (Gr.refl _ _).set.set.set.set.set.set
  have hsz := hs.size
  have lk := Blk.lt
  have hbw : Below w.heap.size w2 w3 := hG.below1 hs.size (by first | omega | assumption)
  have hk : KeepD w2 w3 := hG.keep ⟨⟨_, Blk.ty, by decide⟩, True.intro⟩
  have Bl1k : Bx w3 (w.heap.size + 1) 86 #[.bool false, .slice none 0 0, .slice none 0 0, .bool false, .slice none 0 0, .slice none 0 0] := by rw [hW]; exact Blk.set6
  replace hs := hs.trans hbw
  replace Blloss := hG.bx Blloss (notMem1 (by omega))
  replace Blk := Bl1k
  clear Bl1k
  replace hlo := hlo.keep hk
  replace hhi := hhi.keep hk
  clear hW hG hk hbw hsz lk
  have ck_0 : w3.cell? ⟨w.heap.size + 1, 0, none⟩ = some (.bool false) := Blk.at 0 rfl
  have ck_1 : w3.cell? ⟨w.heap.size + 1, 1, none⟩ = some (.slice none 0 0) := Blk.at 1 rfl
  have ck_2 : w3.cell? ⟨w.heap.size + 1, 2, none⟩ = some (.slice none 0 0) := Blk.at 2 rfl
  have ck_3 : w3.cell? ⟨w.heap.size + 1, 3, none⟩ = some (.bool false) := Blk.at 3 rfl
  have ck_4 : w3.cell? ⟨w.heap.size + 1, 4, none⟩ = some (.slice none 0 0) := Blk.at 4 rfl
  have ck_5 : w3.cell? ⟨w.heap.size + 1, 5, none⟩ = some (.slice none 0 0) := Blk.at 5 rfl
  exact bodyPost_ret (v := .tuple #[.agg #[.bool false, .slice none 0 0, .slice none 0 0, .bool false, .slice none 0 0, .slice none 0 0], .int .i64 c]) (by simp [results, Tryz.results50, go_sem, ck_0, ck_1, ck_2, ck_3, ck_4, ck_5]) rfl ⟨_, _, rfl, PV2.mk (PV.zero _) (PV.zero _), rfl, hs⟩

theorem sc_Porosity (v : Value) (T : List Stp) (vr : Value) (lo hi a b : Rat) (c : Int) (w : World) (hl : Rows 6 113 (C2 PC) w v T) (hz : TabSz T) (hr : PV2 w vr lo hi) (slo : SzQ 100 lo) (shi : SzQ 100 hi) (hle : lo ≤ hi) (hv : porQ T lo hi = (a, b, c)) :
    Calls Tryz.prog 50 #[v, vr] w (Ret2 (fun w v => PV2 w v a b) (fun _ v => v = .int .i64 c) w) := by
  by_cases h : tabE T = 0
  · exact sc_Porosity_ok v T vr lo hi a b c w hl hz hr slo shi hle h hv (tabE_ok h).1
  · unfold porQ at hv
    rw [if_neg h] at hv
    cases hv
    exact sc_Porosity_bad v T vr lo hi _ w hl hz hr rfl h
end Go.Proofs.YtlfnapfnpkhggaaGreat
