/-
  One event more, element by element, as the reference reckons it. No function of the program is walked here.
-/
import Derived.Test.YtlmemilmhdhgbaaGreatPkTailO
import Derived.Test.YtlmemilmhdhgbaaGreatPkVecO
import Derived.Test.YtlmemilmhdhgbaaGreatPkAlBO
set_option linter.unusedSimpArgs false
set_option linter.unusedVariables false
set_option maxRecDepth 100000
set_option maxHeartbeats 16000000
namespace Go.Proofs.YtlmemilmhdhgbaaGreat
open Go.RowKit Dg
def evC (p : Rat) (n k : Nat) : Rat := if 0 < k then binQ p n (k - 1) * p else 0
def evL (p : Rat) (n k : Nat) : List Rat := (List.range (n + 2)).map fun j => if j < k then binQ p (n + 1) j else if j = k then evC p n k else 0
def evM (p : Rat) (n k : Nat) : List Rat := (List.range (n + 2)).map fun j => if j < k + 1 then binQ p (n + 1) j else 0
theorem evL_len (p : Rat) (n k : Nat) : (evL p n k).length = n + 2 := by simp [evL]
theorem evM_len (p : Rat) (n k : Nat) : (evM p n k).length = n + 2 := by simp [evM]
theorem evL_zero (p : Rat) (n : Nat) : evL p n 0 = List.replicate ((binL p n).length + 1) 0 := by
  refine List.ext_getElem? fun j => ?_
  rw [binL_len]
  unfold evL
  rw [List.getElem?_map, List.getElem?_replicate]
  by_cases h : j < n + 2
  · rw [List.getElem?_range h, if_pos (by omega)]
    simp [evC]
  · rw [List.getElem?_eq_none (by simp; omega), if_neg (by omega)]; rfl
theorem evL_at {p : Rat} {n k : Nat} (h : k ≤ n + 1) : nthQ (evL p n k) k = evC p n k := by
  unfold nthQ evL
  rw [List.getD_eq_getElem?_getD, List.getElem?_map, List.getElem?_range (by omega)]
  simp
theorem evM_at {p : Rat} {n k : Nat} (h : k ≤ n) : nthQ (evM p n k) (k + 1) = 0 := by
  unfold nthQ evM
  rw [List.getD_eq_getElem?_getD, List.getElem?_map, List.getElem?_range (by omega)]
  simp
theorem evC_next {p : Rat} {n k : Nat} (h : k ≤ n) : evC p n k + nthQ (binL p n) k * (1 - p) = binQ p (n + 1) k := by
  rw [binL_at h]
  unfold evC
  split
  · rename_i h0
    rw [nx_mid h0 h, binL_at h, binL_at (by omega)]; grind
  · obtain rfl : k = 0 := by omega
    rw [nx_first, binL_at (Nat.zero_le _)]; grind
theorem evL_set {p : Rat} {n k : Nat} (h : k ≤ n) : (evL p n k).set k (evC p n k + nthQ (binL p n) k * (1 - p)) = evM p n k := by
  rw [evC_next h]
  refine List.ext_getElem? fun j => ?_
  rw [List.getElem?_set, evL_len]
  unfold evL evM
  rw [List.getElem?_map, List.getElem?_map]
  by_cases hj : j < n + 2
  · rw [List.getElem?_range hj]
    by_cases e : k = j
    · subst e; simp; omega
    · rw [if_neg e]
      simp only [Option.map_some]
      by_cases e2 : j < k
      · rw [if_pos e2, if_pos (by omega)]
      · rw [if_neg e2, if_neg (show ¬ j = k by omega), if_neg (by omega)]
  · rw [List.getElem?_eq_none (by simp; omega), if_neg (by omega)]; rfl
theorem evM_set {p : Rat} {n k : Nat} (h : k ≤ n) : (evM p n k).set (k + 1) (0 + nthQ (binL p n) k * p) = evL p n (k + 1) := by
  refine List.ext_getElem? fun j => ?_
  rw [List.getElem?_set, evM_len]
  unfold evL evM
  rw [List.getElem?_map, List.getElem?_map]
  by_cases hj : j < n + 2
  · rw [List.getElem?_range hj]
    by_cases e : k + 1 = j
    · subst e
      simp only [Option.map_some]
      rw [if_pos trivial, if_pos (by omega), if_neg (by omega), if_pos trivial, binL_at h]
      unfold evC
      rw [if_pos (by omega), Nat.add_sub_cancel]
      congr 1; grind
    · rw [if_neg e]
      simp only [Option.map_some]
      by_cases e2 : j < k + 1
      · rw [if_pos e2, if_pos e2]
      · rw [if_neg e2, if_neg e2, if_neg (show ¬ j = k + 1 by omega)]
  · rw [List.getElem?_eq_none (by simp; omega), if_neg (by omega)]; rfl
theorem evL_all (p : Rat) (n : Nat) : evL p n (n + 1) = binL p (n + 1) := by
  unfold evL binL
  refine List.map_congr_left fun j hj => ?_
  have hj := List.mem_range.1 hj
  by_cases e : j < n + 1
  · rw [if_pos e]
  · obtain rfl : j = n + 1 := by omega
    rw [if_neg (by omega), if_pos rfl]
    unfold evC
    rw [if_pos (by omega), nx_last (by omega) (by omega), binL_at (by omega)]
    simp only [Nat.add_sub_cancel]; grind
theorem evC_sz {p : Rat} (h0 : 0 ≤ p) (h1 : p ≤ 1) (sp : SzQ 1 p) {n : Nat} (hn : n ≤ 64) (k : Nat) : SzQ 200 (evC p n k) := by
  unfold evC
  split
  · exact (SzQ.mul (bin_sz h0 h1 sp n (k - 1)) sp).mono (by omega)
  · exact szQ_zero.mono (by omega)
end Go.Proofs.YtlmemilmhdhgbaaGreat
namespace Go.Proofs.YtlmemilmhdhgbaaGreat
open Go.RowKit Dg
attribute [local go_sem ↓] Go.wp_at_zero Go.wp_at_succ
theorem r_one (w : World) : Calls Tryz.prog 29 #[.int .i64 1] w (RetQ w 1) := r_Int_calls 1 w (by decide) (by decide)
theorem r_zero (w : World) : Calls Tryz.prog 29 #[.int .i64 0] w (RetQ w 0) := r_Int_calls 0 w (by decide) (by decide)
theorem rR_info : (Tryz.prog.info? 41).map (fun i => (i.zero, i.size, i.bytes)) = some (some (.agg #[.bool false, .slice none 0 0, .slice none 0 0]), 3, 56) := by kernel_rfl
theorem rowsR1 {T : TypeId} {w : World} {g : Nat} {a b c : Value} {q : Rat} (h : Bx w g T #[a, b, c]) (hq : RV w (.agg #[a, b, c]) q) : Rows 3 T RC w (.slice (some ⟨g, 0, none⟩) 1 1) [q] := by
 refine ⟨_, 1, rfl, Nat.le_refl _, by decide, (fun e => by cases e), (fun a ea _ => by cases ea; exact h.ty), fun i x hx => ?_⟩
 match i, hx with
 | 0, hx =>
  cases hx
  refine ⟨g, 0, [a, b, c], rfl, rfl, fun j u hu => ?_, _, _, _, rfl, hq⟩
  match j, hu with
  | 0, hu => cases hu; exact h.at 0 rfl
  | 1, hu => cases hu; exact h.at 1 rfl
  | 2, hu => cases hu; exact h.at 2 rfl
theorem r8_rest (vx : Value) (x : Rat) (w : World) (hx : RV w vx x) (sx : Mid x) :
  Calls Tryz.prog 67 #[vx] w (RetQ w (1 - x)) := by
 obtain ⟨shx, ahx, nhx, chx, Ahx, Nhx, Chx, rfl⟩ := hx.shape
 have hs := Below.refl w.heap.size w
 go_enter Tryz.func67, Tryz.ntmps67
 go_upto_region 1 with fail
 refine Code.abs ?_
 intro w1 hW
 have hG : Gr [] w w1 := by rw [hW]; exact (Gr.refl _ _).alloc.alloc
 have hbw : Below w.heap.size w w1 := hG.below0 hs.size
 have hk : KeepD w w1 := hG.keep True.intro
 have sz_w1 : w.heap.size ≤ w.heap.size := hs.size
 have Blx : Bx w1 (w.heap.size) 41 #[.bool shx, .slice ahx nhx chx, .slice Ahx Nhx Chx] := by rw [hW]; exact ((Bx.new0 _ _ _).alloc _)
 have Blk : Bx w1 (w.heap.size + 1) 41 #[.bool false, .slice none 0 0, .slice none 0 0] := by rw [hW]; exact (Bx.new0 _ _ _)
 replace hs := hs.trans hbw
 replace hx := hx.keep hk
 clear hW hG hk hbw
 have hz_w1 : w.heap.size + 1 < w1.heap.size := Blk.lt
 refine U_region (S := fun w' => w'.cell? ⟨w.heap.size, 0, none⟩ = some (.bool shx) ∧ w'.cell? ⟨w.heap.size, 1, none⟩ = some (.slice ahx nhx chx) ∧ w'.cell? ⟨w.heap.size, 2, none⟩ = some (.slice Ahx Nhx Chx)) (by kernel_rfl) 3 ?_
 refine AnyU.abs ?_
 intro w2 hW
 have hb : Below w1.heap.size w1 w2 := by rw [hW]; exact bDrew _
 replace hs := bStep hs hb
 replace Blx := Blx.mono hb
 replace Blk := Blk.mono hb
 replace hx := hx.mono hb
 clear hb hW
 have Bk : w2.cell? ⟨w.heap.size, 0, none⟩ = some (.bool shx) := Blx.at 0 rfl
 have Bl : w2.cell? ⟨w.heap.size, 1, none⟩ = some (.slice ahx nhx chx) := Blx.at 1 rfl
 have Bm : w2.cell? ⟨w.heap.size, 2, none⟩ = some (.slice Ahx Nhx Chx) := Blx.at 2 rfl
 have hH := (show w2.cell? ⟨w.heap.size, 0, none⟩ = some (.bool shx) ∧ w2.cell? ⟨w.heap.size, 1, none⟩ = some (.slice ahx nhx chx) ∧ w2.cell? ⟨w.heap.size, 2, none⟩ = some (.slice Ahx Nhx Chx) from ⟨Bk, Bl, Bm⟩)
 refine U_take (i := 1) (v := ?_) rfl (by kernel_rfl) (by kernel_rfl) (by kernel_rfl) (by kernel_rfl) (fun _ _ _ h => h) (Or.inl ⟨by rfl, ?_⟩) hH ?_
 rotate_left
 ·intro w hSw
  try dsimp only at hSw
  go_simp
  try with_reducible rfl
 try simp only [Act.put, List.setIfInBounds_toArray, List.set_cons_zero, List.set_cons_succ]
 clear hH
 refine U_one (i := 0) (by kernel_rfl) rfl (fun K hK => ?_)
 go_simp
 (with_reducible refine (r_one _).mono ?_)
 rintro e w3 ⟨_, rfl, h1, hb⟩
 obtain ⟨sh1, ah1, nh1, ch1, Ah1, Nh1, Ch1, rfl⟩ := h1.shape
 replace hs := bStep hs hb
 replace Blx := Blx.mono hb
 replace Blk := Blk.mono hb
 replace hx := hx.mono hb
 replace Bk := cellK Bk hb
 replace Bl := cellK Bl hb
 replace Bm := cellK Bm hb
 clear hb
 try go_wp2_with fail
 refine hK.out _ _ ⟨Bk, Bl, Bm⟩ (fun hH => ?_)
 clear hK K
 try simp only [Act.put, List.setIfInBounds_toArray, List.set_cons_zero, List.set_cons_succ]
 clear hH
 refine U_one (i := 2) (by kernel_rfl) rfl (fun K hK => ?_)
 go_simp
 (with_reducible refine (rSub h1 hx (SzQ.fit szQ_one) (SzQ.fit sx)).mono ?_)
 rintro e w4 ⟨_, rfl, h2, hb⟩
 obtain ⟨sh2, ah2, nh2, ch2, Ah2, Nh2, Ch2, rfl⟩ := h2.shape
 replace hs := bStep hs hb
 replace Blx := Blx.mono hb
 replace Blk := Blk.mono hb
 replace hx := hx.mono hb
 replace h1 := h1.mono hb
 replace Bk := cellK Bk hb
 replace Bl := cellK Bl hb
 replace Bm := cellK Bm hb
 clear hb
 try go_wp2_with fail
 refine hK.out _ _ ⟨Bk, Bl, Bm⟩ (fun hH => ?_)
 clear hK K
 try simp only [Act.put, List.setIfInBounds_toArray, List.set_cons_zero, List.set_cons_succ]
 clear hH
 have Bn : w4.cell? ⟨w.heap.size + 1, 0, none⟩ = some (.bool false) := Blk.at 0 rfl
 have Bo : w4.cell? ⟨w.heap.size + 1, 1, none⟩ = some (.slice none 0 0) := Blk.at 1 rfl
 have Bp : w4.cell? ⟨w.heap.size + 1, 2, none⟩ = some (.slice none 0 0) := Blk.at 2 rfl
 have fk := Blk.free
 have Lk : w.heap.size + 1 < w4.heap.size := Blk.lt
 refine U_last (by kernel_rfl) rfl (by kernel_rfl) (fun K hK => ?_)
 go_simp
 refine hK.out _ _ ?_
 clear hK K
 intro w5 hW
 have hG : Gr [w.heap.size + 1] w4 w5 := by rw [hW]; exact (Gr.refl _ _).set.set.set
 have hsz := hs.size
 have lk := Blk.lt
 have hbw : Below w.heap.size w4 w5 := hG.below1 hs.size (by first | omega | assumption)
 have hk : KeepD w4 w5 := hG.keep ⟨⟨_, Blk.ty, by decide⟩, True.intro⟩
 have Bl1k : Bx w5 (w.heap.size + 1) 41 #[.bool sh2, .slice ah2 nh2 ch2, .slice Ah2 Nh2 Ch2] := by rw [hW]; exact Blk.set3
 replace hs := hs.trans hbw
 replace Blx := hG.bx Blx (notMem1 (by omega))
 replace Blk := Bl1k
 clear Bl1k
 replace hx := hx.keep hk
 replace h1 := h1.keep hk
 replace h2 := h2.keep hk
 clear hW hG hk hbw hsz lk
 try simp only [Act.put, List.setIfInBounds_toArray, List.set_cons_zero, List.set_cons_succ]
 clear Bk Bl Bm
 go_wp2
 have Bn : w5.cell? ⟨w.heap.size + 1, 0, none⟩ = some (.bool sh2) := Blk.at 0 rfl
 have Bo : w5.cell? ⟨w.heap.size + 1, 1, none⟩ = some (.slice ah2 nh2 ch2) := Blk.at 1 rfl
 have Bp : w5.cell? ⟨w.heap.size + 1, 2, none⟩ = some (.slice Ah2 Nh2 Ch2) := Blk.at 2 rfl
 exact bodyPost_ret (v := .agg #[.bool sh2, .slice ah2 nh2 ch2, .slice Ah2 Nh2 Ch2]) (by simp [results, Tryz.results67, go_sem, Bn, Bo, Bp]) rfl ⟨_, rfl, h2, hs⟩
theorem r8_Chance (vx : Value) (x : Rat) (w : World) (hx : RV w vx x) (sx : Mid x) {rB : Bool} (hRB : rB = decide (0 ≤ x ∧ x ≤ 1)) :
  Calls Tryz.prog 38 #[vx] w (RetV w (.bool rB)) := by
 obtain ⟨shx, ahx, nhx, chx, Ahx, Nhx, Chx, rfl⟩ := hx.shape
 have hs := Below.refl w.heap.size w
 have HRB := Lib.hid hRB
 clear hRB
 go_enter Tryz.func38, Tryz.ntmps38
 go_upto_region 1 with fail
 refine Code.abs ?_
 intro w1 hW
 have hG : Gr [] w w1 := by rw [hW]; exact (Gr.refl _ _).alloc
 have hbw : Below w.heap.size w w1 := hG.below0 hs.size
 have hk : KeepD w w1 := hG.keep True.intro
 have sz_w1 : w.heap.size ≤ w.heap.size := hs.size
 have Blp : Bx w1 (w.heap.size) 41 #[.bool shx, .slice ahx nhx chx, .slice Ahx Nhx Chx] := by rw [hW]; exact (Bx.new0 _ _ _)
 replace hs := hs.trans hbw
 replace hx := hx.keep hk
 clear hW hG hk hbw
 have hz_w1 : w.heap.size < w1.heap.size := Blp.lt
 obtain ⟨sg1, Hsg1⟩ : ∃ s : Int, s = sgQ x := ⟨_, rfl⟩
 replace Hsg1 := Lib.hid Hsg1
 by_cases q2 : 0 ≤ x
 ·have q2_ : 0 ≤ sg1 := by have h := s1_ge x; rw [← Hsg1.out] at h; exact h.2 q2
  have q2H := Lib.hid q2
  clear q2
  have q2d : decide (0 ≤ sg1) = true := decide_eq_true q2_
  obtain ⟨sg4, Hsg4⟩ : ∃ s : Int, s = sgQ (x - 1) := ⟨_, rfl⟩
  replace Hsg4 := Lib.hid Hsg4
  refine U_region (S := fun w' => w'.cell? ⟨w.heap.size, 0, none⟩ = some (.bool shx) ∧ w'.cell? ⟨w.heap.size, 1, none⟩ = some (.slice ahx nhx chx) ∧ w'.cell? ⟨w.heap.size, 2, none⟩ = some (.slice Ahx Nhx Chx)) (by kernel_rfl) 10 ?_
  refine AnyU.abs ?_
  intro w2 hW
  have hb : Below w1.heap.size w1 w2 := by rw [hW]; exact bDrew _
  replace hs := bStep hs hb
  replace Blp := Blp.mono hb
  replace hx := hx.mono hb
  clear hb hW
  have B0 : w2.cell? ⟨w.heap.size, 0, none⟩ = some (.bool shx) := Blp.at 0 rfl
  have B1 : w2.cell? ⟨w.heap.size, 1, none⟩ = some (.slice ahx nhx chx) := Blp.at 1 rfl
  have B2 : w2.cell? ⟨w.heap.size, 2, none⟩ = some (.slice Ahx Nhx Chx) := Blp.at 2 rfl
  have hH := (show w2.cell? ⟨w.heap.size, 0, none⟩ = some (.bool shx) ∧ w2.cell? ⟨w.heap.size, 1, none⟩ = some (.slice ahx nhx chx) ∧ w2.cell? ⟨w.heap.size, 2, none⟩ = some (.slice Ahx Nhx Chx) from ⟨B0, B1, B2⟩)
  refine U_takeN (i := 0) (d := 3) (v := ?_) rfl rfl rfl (by kernel_rfl) (by kernel_rfl) (by kernel_rfl) (fun _ _ _ h => h) (Or.inl ⟨by rfl, ?_⟩) hH ?_
  rotate_left
  ·intro w hSw
   try dsimp only at hSw
   go_simp
   try with_reducible rfl
  simp only [LY]
  clear hH
  refine U_one (i := 1) (by kernel_rfl) rfl (fun K hK => ?_)
  go_simp
  (with_reducible refine (rSign hx).mono ?_)
  rintro e w3 ⟨rfl, hb⟩
  replace hs := bStep hs hb
  replace Blp := Blp.mono hb
  replace hx := hx.mono hb
  replace B0 := cellK B0 hb
  replace B1 := cellK B1 hb
  replace B2 := cellK B2 hb
  clear hb
  rw [← Hsg1.out]
  try go_wp2_with fail
  refine hK.out _ _ ⟨B0, B1, B2⟩ (fun hH => ?_)
  clear hK K
  try simp only [LY]
  refine U_takeN (i := 2) (d := 5) (v := ?_) rfl rfl rfl (by kernel_rfl) (by kernel_rfl) (by kernel_rfl) (fun _ _ _ h => h) (Or.inl ⟨by rfl, ?_⟩) hH ?_
  rotate_left
  ·intro w hSw
   try dsimp only at hSw
   go_simp
   try with_reducible rfl
  simp only [LY]
  refine U_takeN (i := 3) (d := 6) (v := ?_) rfl rfl rfl (by kernel_rfl) (by kernel_rfl) (by kernel_rfl) (fun _ _ _ h => h) (Or.inl ⟨by rfl, ?_⟩) hH ?_
  rotate_left
  ·intro w hSw
   try dsimp only at hSw
   go_simp
   try with_reducible rfl
  simp only [LY]
  refine U_takeN (i := 4) (d := 7) (v := ?_) rfl rfl rfl (by kernel_rfl) (by kernel_rfl) (by kernel_rfl) (fun _ _ _ h => h) (Or.inl ⟨by rfl, ?_⟩) hH ?_
  rotate_left
  ·intro w hSw
   try dsimp only at hSw
   go_simp
   try with_reducible rfl
  simp only [LY]
  clear hH
  refine U_one (i := 5) (by kernel_rfl) rfl (fun K hK => ?_)
  go_simp
  (with_reducible refine (r_one _).mono ?_)
  rintro e w4 ⟨_, rfl, h3, hb⟩
  obtain ⟨sh3, ah3, nh3, ch3, Ah3, Nh3, Ch3, rfl⟩ := h3.shape
  replace hs := bStep hs hb
  replace Blp := Blp.mono hb
  replace hx := hx.mono hb
  replace B0 := cellK B0 hb
  replace B1 := cellK B1 hb
  replace B2 := cellK B2 hb
  clear hb
  try go_wp2_with fail
  refine hK.out _ _ ⟨B0, B1, B2⟩ (fun hH => ?_)
  clear hK K
  try simp only [LY]
  clear hH
  refine U_one (i := 6) (by kernel_rfl) rfl (fun K hK => ?_)
  go_simp
  (with_reducible refine (rCmp hx h3 (SzQ.fit sx) (SzQ.fit szQ_one)).mono ?_)
  rintro e w5 ⟨rfl, hb⟩
  replace hs := bStep hs hb
  replace Blp := Blp.mono hb
  replace hx := hx.mono hb
  replace h3 := h3.mono hb
  replace B0 := cellK B0 hb
  replace B1 := cellK B1 hb
  replace B2 := cellK B2 hb
  clear hb
  rw [← Hsg4.out]
  try go_wp2_with fail
  refine hK.out _ _ ⟨B0, B1, B2⟩ (fun hH => ?_)
  clear hK K
  try simp only [LY]
  refine U_takeN (i := 7) (d := 10) (v := ?_) rfl rfl rfl (by kernel_rfl) (by kernel_rfl) (by kernel_rfl) (fun _ _ _ h => h) (Or.inl ⟨by rfl, ?_⟩) hH ?_
  rotate_left
  ·intro w hSw
   try dsimp only at hSw
   go_simp
   try with_reducible rfl
  simp only [LY]
  refine U_takeN (i := 8) (d := 11) (v := ?_) rfl rfl rfl (by kernel_rfl) (by kernel_rfl) (by kernel_rfl) (fun _ _ _ h => h) (Or.inl ⟨by rfl, ?_⟩) hH ?_
  rotate_left
  ·intro w hSw
   try dsimp only at hSw
   go_simp
   try with_reducible rfl
  simp only [LY]
  refine U_takeN (i := 9) (d := 2) (v := ?_) rfl rfl rfl (by kernel_rfl) (by kernel_rfl) (by kernel_rfl) (fun _ _ _ h => h) (Or.inl ⟨by rfl, ?_⟩) hH ?_
  rotate_left
  ·intro w hSw
   try dsimp only at hSw
   go_simp
   try with_reducible rfl
  simp only [LY]
  clear hH
  refine U_endN (by kernel_rfl) ?_
  clear B0 B1 B2
  by_cases q5 : x ≤ 1
  ·have q5_ : sg4 ≤ 0 := by have h := sq_le x 1; rw [← Hsg4.out] at h; exact h.2 q5
   have q5H := Lib.hid q5
   clear q5
   have q5d : decide (sg4 ≤ 0) = true := decide_eq_true q5_
   try simp only [q5d]
   go_wp2
   go_ret
   exact ⟨(by rw [HRB.out, decide_eq_true (show 0 ≤ x ∧ x ≤ 1 from by have p0 : 0 ≤ x := q2H.out; have p1 : x ≤ 1 := q5H.out; first | assumption | exact ⟨by assumption, by assumption⟩ | exact ⟨⟨by assumption, by assumption⟩, ⟨by assumption, by assumption⟩⟩)]; rfl), hs⟩
  ·have q5_ : ¬ (sg4 ≤ 0) := by have h := sq_le x 1; rw [← Hsg4.out] at h; exact fun h1 => q5 (h.1 h1)
   have q5H := Lib.hid q5
   clear q5
   have q5d : decide (sg4 ≤ 0) = false := decide_eq_false q5_
   try simp only [q5d]
   go_wp2
   go_ret
   exact ⟨(by rw [HRB.out, decide_eq_false (show ¬ (0 ≤ x ∧ x ≤ 1) from by have p0 : 0 ≤ x := q2H.out; have p1 : ¬ (x ≤ 1) := q5H.out; first | assumption | exact fun h => absurd h.1 (by assumption) | exact fun h => absurd h.2 (by assumption))]; rfl), hs⟩
 ·have q2_ : ¬ (0 ≤ sg1) := by have h := s1_ge x; rw [← Hsg1.out] at h; exact fun h1 => q2 (h.1 h1)
  have q2H := Lib.hid q2
  clear q2
  have q2d : decide (0 ≤ sg1) = false := decide_eq_false q2_
  refine U_region (S := fun w' => w'.cell? ⟨w.heap.size, 0, none⟩ = some (.bool shx) ∧ w'.cell? ⟨w.heap.size, 1, none⟩ = some (.slice ahx nhx chx) ∧ w'.cell? ⟨w.heap.size, 2, none⟩ = some (.slice Ahx Nhx Chx)) (by kernel_rfl) 10 ?_
  refine AnyU.abs ?_
  intro w2 hW
  have hb : Below w1.heap.size w1 w2 := by rw [hW]; exact bDrew _
  replace hs := bStep hs hb
  replace Blp := Blp.mono hb
  replace hx := hx.mono hb
  clear hb hW
  have B0 : w2.cell? ⟨w.heap.size, 0, none⟩ = some (.bool shx) := Blp.at 0 rfl
  have B1 : w2.cell? ⟨w.heap.size, 1, none⟩ = some (.slice ahx nhx chx) := Blp.at 1 rfl
  have B2 : w2.cell? ⟨w.heap.size, 2, none⟩ = some (.slice Ahx Nhx Chx) := Blp.at 2 rfl
  have hH := (show w2.cell? ⟨w.heap.size, 0, none⟩ = some (.bool shx) ∧ w2.cell? ⟨w.heap.size, 1, none⟩ = some (.slice ahx nhx chx) ∧ w2.cell? ⟨w.heap.size, 2, none⟩ = some (.slice Ahx Nhx Chx) from ⟨B0, B1, B2⟩)
  refine U_takeN (i := 0) (d := 3) (v := ?_) rfl rfl rfl (by kernel_rfl) (by kernel_rfl) (by kernel_rfl) (fun _ _ _ h => h) (Or.inl ⟨by rfl, ?_⟩) hH ?_
  rotate_left
  ·intro w hSw
   try dsimp only at hSw
   go_simp
   try with_reducible rfl
  simp only [LY]
  clear hH
  refine U_one (i := 1) (by kernel_rfl) rfl (fun K hK => ?_)
  go_simp
  (with_reducible refine (rSign hx).mono ?_)
  rintro e w3 ⟨rfl, hb⟩
  replace hs := bStep hs hb
  replace Blp := Blp.mono hb
  replace hx := hx.mono hb
  replace B0 := cellK B0 hb
  replace B1 := cellK B1 hb
  replace B2 := cellK B2 hb
  clear hb
  rw [← Hsg1.out]
  try go_wp2_with fail
  refine hK.out _ _ ⟨B0, B1, B2⟩ (fun hH => ?_)
  clear hK K
  try simp only [LY]
  refine U_takeN (i := 2) (d := 5) (v := ?_) rfl rfl rfl (by kernel_rfl) (by kernel_rfl) (by kernel_rfl) (fun _ _ _ h => h) (Or.inl ⟨by rfl, ?_⟩) hH ?_
  rotate_left
  ·intro w hSw
   try dsimp only at hSw
   go_simp
   try with_reducible rfl
  simp only [LY]
  refine U_takeN (i := 3) (d := 6) (v := ?_) rfl rfl rfl (by kernel_rfl) (by kernel_rfl) (by kernel_rfl) (fun _ _ _ h => h) (Or.inl ⟨by rfl, ?_⟩) hH ?_
  rotate_left
  ·intro w hSw
   try dsimp only at hSw
   go_simp
   try with_reducible rfl
  simp only [LY]
  refine U_takeN (i := 4) (d := 7) (v := undef) rfl rfl rfl (by kernel_rfl) (by kernel_rfl) (by kernel_rfl) (fun _ _ _ h => h) (Or.inr ⟨by rfl, rfl⟩) hH ?_
  simp only [LY]
  clear hH
  refine U_one (i := 5) (by kernel_rfl) rfl (fun K hK => ?_)
  go_simp
  refine hK.out _ _ ⟨B0, B1, B2⟩ (fun hH => ?_)
  clear hK K
  try simp only [LY]
  clear hH
  refine U_one (i := 6) (by kernel_rfl) rfl (fun K hK => ?_)
  go_simp
  refine hK.out _ _ ⟨B0, B1, B2⟩ (fun hH => ?_)
  clear hK K
  try simp only [LY]
  refine U_takeN (i := 7) (d := 10) (v := undef) rfl rfl rfl (by kernel_rfl) (by kernel_rfl) (by kernel_rfl) (fun _ _ _ h => h) (Or.inr ⟨by rfl, rfl⟩) hH ?_
  simp only [LY]
  refine U_takeN (i := 8) (d := 11) (v := ?_) rfl rfl rfl (by kernel_rfl) (by kernel_rfl) (by kernel_rfl) (fun _ _ _ h => h) (Or.inl ⟨by rfl, ?_⟩) hH ?_
  rotate_left
  ·intro w hSw
   try dsimp only at hSw
   go_simp
   try with_reducible rfl
  simp only [LY]
  refine U_takeN (i := 9) (d := 2) (v := ?_) rfl rfl rfl (by kernel_rfl) (by kernel_rfl) (by kernel_rfl) (fun _ _ _ h => h) (Or.inl ⟨by rfl, ?_⟩) hH ?_
  rotate_left
  ·intro w hSw
   try dsimp only at hSw
   go_simp
   try with_reducible rfl
  simp only [LY]
  clear hH
  refine U_endN (by kernel_rfl) ?_
  clear B0 B1 B2
  go_wp2
  go_ret
  exact ⟨(by rw [HRB.out, decide_eq_false (show ¬ (0 ≤ x ∧ x ≤ 1) from by have p0 : ¬ (0 ≤ x) := q2H.out; first | assumption | exact fun h => absurd h.1 (by assumption) | exact fun h => absurd h.2 (by assumption))]; rfl), hs⟩
theorem r8_event {v v' : Value} {p : Rat} {n : Nat} (w : World) (hl : Rows 3 41 RC w v (binL p n)) (hp : RV w v' p) (sp : SzQ 1 p) (h0 : 0 ≤ p) (h1 : p ≤ 1) (hn : n ≤ 64) :
  Calls Tryz.prog 99 #[v, v'] w (Ret1 (fun w v => Rows 3 41 RC w v (binL p (n + 1))) w) := by
 obtain ⟨bhl, ohl, khl, rfl, hl1, hl2, -⟩ := hl.open_ (by rw [binL_len]; omega)
 obtain ⟨shp, ahp, nhp, chp, Ahp, Nhp, Chp, rfl⟩ := hp.shape
 have hs := Below.refl w.heap.size w
 have kl1 : (binL p n).length ≤ n + 1 := Nat.le_of_eq (binL_len p n)
 have kl2 : n + 1 ≤ (binL p n).length := Nat.le_of_eq (binL_len p n).symm
 have HBZ := Lib.hid (fun m (hm : m ≤ 64) => binL_mid h0 h1 sp hm)
 have HCZ := Lib.hid (fun k => evC_sz h0 h1 sp hn k)
 obtain ⟨i0, hi, hz0, hz1, hz2⟩ := info_parts rR_info
 clear h0 h1
 go_enter Tryz.func99, Tryz.ntmps99
 go_wp2_with (at_make; refine wpList.stop ?_)
 refine ⟨?_⟩
 refine wpList.abs ?_
 intro w1 hW
 have hG : Gr [] w w1 := by rw [hW]; exact (Gr.refl _ _).alloc
 have hbw : Below w.heap.size w w1 := hG.below0 hs.size
 have hk : KeepD w w1 := hG.keep True.intro
 have sz_w1 : w.heap.size ≤ w.heap.size := hs.size
 have nhl_w1 : bhl < w.heap.size := hl.lt (by omega)
 have Blp : Bx w1 (w.heap.size) 41 #[.bool shp, .slice ahp nhp chp, .slice Ahp Nhp Chp] := by rw [hW]; exact (Bx.new0 _ _ _)
 replace hs := hs.trans hbw
 replace hl := rowsJ RC.kept _ _ _ hl (hG.below0 (Nat.le_refl _))
 replace hp := hp.keep hk
 clear hW hG hk hbw
 have hz_w1 : w.heap.size < w1.heap.size := Blp.lt
 refine wpList_make_full _ rfl _ _ _ rfl w.heap.size 41 i0 _ 3 Tryz.underlying28 hi hz0 hz1 _ _ _ _ (((binL p n).length + 1)) rfl rfl (by omega) (by omega) (by rw [hz2]; omega) (by unfold maxLen; omega) hs.size ?_
 intro w2 hown hgrow
 have hb : Below w1.heap.size w1 w2 := (Below.refl _ _).grown hgrow (Nat.le_refl _) (fun k hk => by cases hk)
 have hv_nx : w.heap.size ≤ w1.heap.size := hs.size
 have np_w2 : w.heap.size < w1.heap.size := Blp.lt
 have nhl_w2 : bhl < w1.heap.size := hl.lt (by omega)
 replace hs := bStep hs hb
 replace Blp := Blp.mono hb
 replace hp := hp.mono hb
 replace hl := rowsJ RC.kept _ _ _ hl hb
 clear hb
 have Vnx : VecR 41 3 RC w2 (w1.heap.size) (evL p n 0) := by rw [evL_zero]; exact VecR.made hown (by omega) ⟨_, _, _, rfl, RV.zero _⟩
 clear hown hgrow
 have Lv_nx : w1.heap.size < w2.heap.size := Vnx.lt
 go_wp2
 go_loopw [6] (fun s6 wq => ∃ k : Nat, k ≤ (binL p n).length ∧ s6 = .int .i64 k ∧ Below w.heap.size w wq ∧ Bx wq (w.heap.size) 41 #[.bool shp, .slice ahp nhp chp, .slice Ahp Nhp Chp] ∧ RV wq (.agg #[.bool shp, .slice ahp nhp chp, .slice Ahp Nhp Chp]) (p) ∧ Rows 3 41 RC wq (.slice (some ⟨bhl, ohl, none⟩) (binL p n).length khl) ((binL p n)) ∧ (VecR 41 3 RC wq (w1.heap.size) (evL p n k))) (fun s6 _ => (binL p n).length - (intOf s6).toNat)
 case atStart => exact ⟨0, Nat.zero_le _, rfl, hs, Blp, hp, hl, Vnx⟩
 case round =>
  clear Blp hp hl hs
  obtain ⟨k, k_le, rfl, hs, Blp, hp, hl, Vnx⟩ := hrel
  replace Vnx := Lib.hid Vnx
  replace Vnx := Vnx.out
  have kl : (binL p n).length = n + 1 := binL_len p n
  have kl1 : (binL p n).length ≤ n + 1 := Nat.le_of_eq kl
  have kl2 : n + 1 ≤ (binL p n).length := Nat.le_of_eq kl.symm
  clear kl
  by_cases q1 : k < (binL p n).length
  ·have q1d : ((k : Int) < ((binL p n).length : Int)) = True := eq_true (by omega)
   go_upto_region 5 with fail
   have BI2a : k < ((binL p n).length + 1) := by omega
   have BI2b : ((k : Int) : Int) < (((binL p n).length + 1) : Int) := by omega
   obtain ⟨ge3, ae3, ne3, ce3, Ae3, Ne3, De3, B7, B8, B9, he3, le3⟩ := vecR_at Vnx (show k < (evL p n k).length by (first | (rw [evL_len]; omega) | (rw [evM_len]; omega)))
   rw [evL_at (by omega)] at he3
   have BI4a : k < (binL p n).length := by omega
   have BI4b : ((k : Int) : Int) < ((binL p n).length : Int) := by omega
   obtain ⟨ge5a, ae5a, ne5a, ce5a, Ae5a, Ne5a, De5a, B4, B5, B6, he5a, le5⟩ := rowR_at hl (show k < (binL p n).length by omega)
   refine U_region (S := fun w' => w'.cell? ⟨w.heap.size, 0, none⟩ = some (.bool shp) ∧ w'.cell? ⟨w.heap.size, 1, none⟩ = some (.slice ahp nhp chp) ∧ w'.cell? ⟨w.heap.size, 2, none⟩ = some (.slice Ahp Nhp Chp) ∧ w'.cell? ⟨w1.heap.size, k * 3, none⟩ = some (.bool ge3) ∧ w'.cell? ⟨w1.heap.size, k * 3 + 1, none⟩ = some (.slice ae3 ne3 ce3) ∧ w'.cell? ⟨w1.heap.size, k * 3 + 2, none⟩ = some (.slice Ae3 Ne3 De3) ∧ w'.cell? ⟨bhl, ohl + k * 3, none⟩ = some (.bool ge5a) ∧ w'.cell? ⟨bhl, ohl + k * 3 + 1, none⟩ = some (.slice ae5a ne5a ce5a) ∧ w'.cell? ⟨bhl, ohl + k * 3 + 2, none⟩ = some (.slice Ae5a Ne5a De5a)) (by kernel_rfl) 15 ?_
   refine AnyU.abs ?_
   intro w23 hW
   have hb : Below wr.heap.size wr w23 := by rw [hW]; exact bDrew _
   replace hs := bStep hs hb
   replace Blp := Blp.mono hb
   replace hp := hp.mono hb
   replace he3 := he3.mono hb
   replace he5a := he5a.mono hb
   replace hl := rowsJ RC.kept _ _ _ hl hb
   replace Vnx := VecR.mono RC.kept Vnx hb
   replace B7 := cellK B7 hb
   replace B8 := cellK B8 hb
   replace B9 := cellK B9 hb
   replace B4 := cellK B4 hb
   replace B5 := cellK B5 hb
   replace B6 := cellK B6 hb
   clear hb hW
   have B0 : w23.cell? ⟨w.heap.size, 0, none⟩ = some (.bool shp) := Blp.at 0 rfl
   have B1 : w23.cell? ⟨w.heap.size, 1, none⟩ = some (.slice ahp nhp chp) := Blp.at 1 rfl
   have B2 : w23.cell? ⟨w.heap.size, 2, none⟩ = some (.slice Ahp Nhp Chp) := Blp.at 2 rfl
   have hH := (show w23.cell? ⟨w.heap.size, 0, none⟩ = some (.bool shp) ∧ w23.cell? ⟨w.heap.size, 1, none⟩ = some (.slice ahp nhp chp) ∧ w23.cell? ⟨w.heap.size, 2, none⟩ = some (.slice Ahp Nhp Chp) ∧ w23.cell? ⟨w1.heap.size, k * 3, none⟩ = some (.bool ge3) ∧ w23.cell? ⟨w1.heap.size, k * 3 + 1, none⟩ = some (.slice ae3 ne3 ce3) ∧ w23.cell? ⟨w1.heap.size, k * 3 + 2, none⟩ = some (.slice Ae3 Ne3 De3) ∧ w23.cell? ⟨bhl, ohl + k * 3, none⟩ = some (.bool ge5a) ∧ w23.cell? ⟨bhl, ohl + k * 3 + 1, none⟩ = some (.slice ae5a ne5a ce5a) ∧ w23.cell? ⟨bhl, ohl + k * 3 + 2, none⟩ = some (.slice Ae5a Ne5a De5a) from ⟨B0, B1, B2, B7, B8, B9, B4, B5, B6⟩)
   refine U_take (i := 0) (v := ?_) rfl (by kernel_rfl) (by kernel_rfl) (by kernel_rfl) (by kernel_rfl) (fun _ _ _ h => h) (Or.inl ⟨by rfl, ?_⟩) hH ?_
   rotate_left
   ·intro w hSw
    try dsimp only at hSw
    go_simp
    try with_reducible rfl
   try simp only [Act.put, List.setIfInBounds_toArray, List.set_cons_zero, List.set_cons_succ]
   refine U_take (i := 1) (v := ?_) rfl (by kernel_rfl) (by kernel_rfl) (by kernel_rfl) (by kernel_rfl) (fun _ _ _ h => h) (Or.inl ⟨by rfl, ?_⟩) hH ?_
   rotate_left
   ·intro w hSw
    try dsimp only at hSw
    go_simp
    try with_reducible rfl
   try simp only [Act.put, List.setIfInBounds_toArray, List.set_cons_zero, List.set_cons_succ]
   refine U_take (i := 2) (v := ?_) rfl (by kernel_rfl) (by kernel_rfl) (by kernel_rfl) (by kernel_rfl) (fun _ _ _ h => h) (Or.inl ⟨by rfl, ?_⟩) hH ?_
   rotate_left
   ·intro w hSw
    try dsimp only at hSw
    go_simp
    try with_reducible rfl
   try simp only [Act.put, List.setIfInBounds_toArray, List.set_cons_zero, List.set_cons_succ]
   refine U_take (i := 3) (v := ?_) rfl (by kernel_rfl) (by kernel_rfl) (by kernel_rfl) (by kernel_rfl) (fun _ _ _ h => h) (Or.inl ⟨by rfl, ?_⟩) hH ?_
   rotate_left
   ·intro w hSw
    try dsimp only at hSw
    go_simp
    try with_reducible rfl
   try simp only [Act.put, List.setIfInBounds_toArray, List.set_cons_zero, List.set_cons_succ]
   refine U_take (i := 4) (v := ?_) rfl (by kernel_rfl) (by kernel_rfl) (by kernel_rfl) (by kernel_rfl) (fun _ _ _ h => h) (Or.inl ⟨by rfl, ?_⟩) hH ?_
   rotate_left
   ·intro w hSw
    try dsimp only at hSw
    go_simp
    try with_reducible rfl
   try simp only [Act.put, List.setIfInBounds_toArray, List.set_cons_zero, List.set_cons_succ]
   refine U_take (i := 5) (v := ?_) rfl (by kernel_rfl) (by kernel_rfl) (by kernel_rfl) (by kernel_rfl) (fun _ _ _ h => h) (Or.inl ⟨by rfl, ?_⟩) hH ?_
   rotate_left
   ·intro w hSw
    try dsimp only at hSw
    go_simp
    try with_reducible rfl
   try simp only [Act.put, List.setIfInBounds_toArray, List.set_cons_zero, List.set_cons_succ]
   refine U_take (i := 6) (v := ?_) rfl (by kernel_rfl) (by kernel_rfl) (by kernel_rfl) (by kernel_rfl) (fun _ _ _ h => h) (Or.inl ⟨by rfl, ?_⟩) hH ?_
   rotate_left
   ·intro w hSw
    try dsimp only at hSw
    go_simp
    try with_reducible rfl
   try simp only [Act.put, List.setIfInBounds_toArray, List.set_cons_zero, List.set_cons_succ]
   refine U_take (i := 7) (v := ?_) rfl (by kernel_rfl) (by kernel_rfl) (by kernel_rfl) (by kernel_rfl) (fun _ _ _ h => h) (Or.inl ⟨by rfl, ?_⟩) hH ?_
   rotate_left
   ·intro w hSw
    try dsimp only at hSw
    go_simp
    try with_reducible rfl
   try simp only [Act.put, List.setIfInBounds_toArray, List.set_cons_zero, List.set_cons_succ]
   refine U_take (i := 8) (v := ?_) rfl (by kernel_rfl) (by kernel_rfl) (by kernel_rfl) (by kernel_rfl) (fun _ _ _ h => h) (Or.inl ⟨by rfl, ?_⟩) hH ?_
   rotate_left
   ·intro w hSw
    try dsimp only at hSw
    go_simp
    try with_reducible rfl
   try simp only [Act.put, List.setIfInBounds_toArray, List.set_cons_zero, List.set_cons_succ]
   refine U_take (i := 9) (v := ?_) rfl (by kernel_rfl) (by kernel_rfl) (by kernel_rfl) (by kernel_rfl) (fun _ _ _ h => h) (Or.inl ⟨by rfl, ?_⟩) hH ?_
   rotate_left
   ·intro w hSw
    try dsimp only at hSw
    go_simp
    try with_reducible rfl
   try simp only [Act.put, List.setIfInBounds_toArray, List.set_cons_zero, List.set_cons_succ]
   refine U_take (i := 10) (v := ?_) rfl (by kernel_rfl) (by kernel_rfl) (by kernel_rfl) (by kernel_rfl) (fun _ _ _ h => h) (Or.inl ⟨by rfl, ?_⟩) hH ?_
   rotate_left
   ·intro w hSw
    try dsimp only at hSw
    go_simp
    try with_reducible rfl
   try simp only [Act.put, List.setIfInBounds_toArray, List.set_cons_zero, List.set_cons_succ]
   clear hH
   refine U_one (i := 11) (by kernel_rfl) rfl (fun K hK => ?_)
   go_simp
   (with_reducible refine (r8_rest _ _ _ hp (SzQ.mid sp)).mono ?_)
   rintro e w24 ⟨_, rfl, h6, hb⟩
   obtain ⟨sh6, ah6, nh6, ch6, Ah6, Nh6, Ch6, rfl⟩ := h6.shape
   replace hs := bStep hs hb
   replace Blp := Blp.mono hb
   replace hp := hp.mono hb
   replace he3 := he3.mono hb
   replace he5a := he5a.mono hb
   replace hl := rowsJ RC.kept _ _ _ hl hb
   replace Vnx := VecR.mono RC.kept Vnx hb
   replace B0 := cellK B0 hb
   replace B1 := cellK B1 hb
   replace B2 := cellK B2 hb
   replace B7 := cellK B7 hb
   replace B8 := cellK B8 hb
   replace B9 := cellK B9 hb
   replace B4 := cellK B4 hb
   replace B5 := cellK B5 hb
   replace B6 := cellK B6 hb
   clear hb
   try go_wp2_with fail
   refine hK.out _ _ ⟨B0, B1, B2, B7, B8, B9, B4, B5, B6⟩ (fun hH => ?_)
   clear hK K
   try simp only [Act.put, List.setIfInBounds_toArray, List.set_cons_zero, List.set_cons_succ]
   clear hH
   refine U_one (i := 12) (by kernel_rfl) rfl (fun K hK => ?_)
   go_simp
   (with_reducible refine (rMul he5a h6 (SzQ.fit (HBZ.out n hn k (by omega))) (SzQ.fit (SzQ.sub szQ_one sp))).mono ?_)
   rintro e w25 ⟨_, rfl, h7, hb⟩
   obtain ⟨sh7, ah7, nh7, ch7, Ah7, Nh7, Ch7, rfl⟩ := h7.shape
   replace hs := bStep hs hb
   replace Blp := Blp.mono hb
   replace hp := hp.mono hb
   replace he3 := he3.mono hb
   replace he5a := he5a.mono hb
   replace h6 := h6.mono hb
   replace hl := rowsJ RC.kept _ _ _ hl hb
   replace Vnx := VecR.mono RC.kept Vnx hb
   replace B0 := cellK B0 hb
   replace B1 := cellK B1 hb
   replace B2 := cellK B2 hb
   replace B7 := cellK B7 hb
   replace B8 := cellK B8 hb
   replace B9 := cellK B9 hb
   replace B4 := cellK B4 hb
   replace B5 := cellK B5 hb
   replace B6 := cellK B6 hb
   clear hb
   try go_wp2_with fail
   refine hK.out _ _ ⟨B0, B1, B2, B7, B8, B9, B4, B5, B6⟩ (fun hH => ?_)
   clear hK K
   try simp only [Act.put, List.setIfInBounds_toArray, List.set_cons_zero, List.set_cons_succ]
   clear hH
   refine U_one (i := 13) (by kernel_rfl) rfl (fun K hK => ?_)
   go_simp
   (with_reducible refine (rAdd he3 h7 (SzQ.fit (HCZ.out k)) (SzQ.fit (SzQ.mul (HBZ.out n hn k (by omega)) (SzQ.sub szQ_one sp)))).mono ?_)
   rintro e w26 ⟨_, rfl, h8, hb⟩
   obtain ⟨sh8, ah8, nh8, ch8, Ah8, Nh8, Ch8, rfl⟩ := h8.shape
   replace hs := bStep hs hb
   replace Blp := Blp.mono hb
   replace hp := hp.mono hb
   replace he3 := he3.mono hb
   replace he5a := he5a.mono hb
   replace h6 := h6.mono hb
   replace h7 := h7.mono hb
   replace hl := rowsJ RC.kept _ _ _ hl hb
   replace Vnx := VecR.mono RC.kept Vnx hb
   replace B0 := cellK B0 hb
   replace B1 := cellK B1 hb
   replace B2 := cellK B2 hb
   replace B7 := cellK B7 hb
   replace B8 := cellK B8 hb
   replace B9 := cellK B9 hb
   replace B4 := cellK B4 hb
   replace B5 := cellK B5 hb
   replace B6 := cellK B6 hb
   clear hb
   try go_wp2_with fail
   refine hK.out _ _ ⟨B0, B1, B2, B7, B8, B9, B4, B5, B6⟩ (fun hH => ?_)
   clear hK K
   try simp only [Act.put, List.setIfInBounds_toArray, List.set_cons_zero, List.set_cons_succ]
   refine U_take (i := 14) (v := ?_) rfl (by kernel_rfl) (by kernel_rfl) (by kernel_rfl) (by kernel_rfl) (fun _ _ _ h => h) (Or.inl ⟨by rfl, ?_⟩) hH ?_
   rotate_left
   ·intro w hSw
    try dsimp only at hSw
    go_simp
    try with_reducible rfl
   try simp only [Act.put, List.setIfInBounds_toArray, List.set_cons_zero, List.set_cons_succ]
   clear hH
   have fVnx := Vnx.free
   have LVnx : w1.heap.size < w26.heap.size := Vnx.lt
   refine U_last (by kernel_rfl) rfl (by kernel_rfl) (fun K hK => ?_)
   go_simp
   refine hK.out _ _ ?_
   clear hK K
   intro w27 hW
   have hG : Gr [w1.heap.size] w26 w27 := by rw [hW]; exact (Gr.refl _ _).set.set.set
   have hsz := hs.size
   have hbw : Below w.heap.size w26 w27 := hG.below1 hs.size (by first | omega | assumption)
   have hk : KeepD w26 w27 := hG.keep ⟨⟨_, Vnx.ty, by decide⟩, True.intro⟩
   have V1nx : VecR 41 3 RC w27 (w1.heap.size) ((evL p n k).set k (evC p n k + ((nthQ (binL p n) k) * (1 - p)))) := by rw [hW]; exact (Vnx.put3 RC.kept (show k < (evL p n k).length by (first | (rw [evL_len]; omega) | (rw [evM_len]; omega))) (by decide) ⟨_, _, _, rfl, h8⟩ ((Gr.refl _ _)))
   rw [evL_set (by omega)] at V1nx
   replace hs := hs.trans hbw
   replace hl := hl.gr RC.kept hG (notMem1 (by omega)) hk
   replace Blp := hG.bx Blp (notMem1 (by omega))
   replace Vnx := V1nx
   clear V1nx
   replace hp := hp.keep hk
   replace he3 := he3.keep hk
   replace he5a := he5a.keep hk
   replace h6 := h6.keep hk
   replace h7 := h7.keep hk
   replace h8 := h8.keep hk
   clear hW hG hk hbw hsz
   try simp only [Act.put, List.setIfInBounds_toArray, List.set_cons_zero, List.set_cons_succ]
   clear B0 B1 B2 B7 B8 B9 B4 B5 B6
   go_upto_region 6 with fail
   have SW9a := IntWalk.i64_in ((k : Int) + 1) (by omega)
   have SW9b : (0 : Int) ≤ (k : Int) + 1 := by omega
   have SW9c : ((k : Int) + 1).toNat = (k + 1) := by omega
   have SW9d : (k : Int) + 1 < (((binL p n).length + 1) : Int) := by omega
   have BI10a : (k + 1) < ((binL p n).length + 1) := by omega
   have BI10b : ((k : Int) + 1 : Int) < (((binL p n).length + 1) : Int) := by omega
   obtain ⟨ge11, ae11, ne11, ce11, Ae11, Ne11, De11, Ba, Bb, Bc, he11, le11⟩ := vecR_at Vnx (show (k + 1) < (evM p n k).length by (first | (rw [evL_len]; omega) | (rw [evM_len]; omega)))
   rw [evM_at (by omega)] at he11
   have BI12a : k < (binL p n).length := by omega
   have BI12b : ((k : Int) : Int) < ((binL p n).length : Int) := by omega
   obtain ⟨ge13a, ae13a, ne13a, ce13a, Ae13a, Ne13a, De13a, Bd, Be, Bf, he13a, le13⟩ := rowR_at hl (show k < (binL p n).length by omega)
   refine U_region (S := fun w' => w'.cell? ⟨w.heap.size, 0, none⟩ = some (.bool shp) ∧ w'.cell? ⟨w.heap.size, 1, none⟩ = some (.slice ahp nhp chp) ∧ w'.cell? ⟨w.heap.size, 2, none⟩ = some (.slice Ahp Nhp Chp) ∧ w'.cell? ⟨w1.heap.size, (k + 1) * 3, none⟩ = some (.bool ge11) ∧ w'.cell? ⟨w1.heap.size, (k + 1) * 3 + 1, none⟩ = some (.slice ae11 ne11 ce11) ∧ w'.cell? ⟨w1.heap.size, (k + 1) * 3 + 2, none⟩ = some (.slice Ae11 Ne11 De11) ∧ w'.cell? ⟨bhl, ohl + k * 3, none⟩ = some (.bool ge13a) ∧ w'.cell? ⟨bhl, ohl + k * 3 + 1, none⟩ = some (.slice ae13a ne13a ce13a) ∧ w'.cell? ⟨bhl, ohl + k * 3 + 2, none⟩ = some (.slice Ae13a Ne13a De13a)) (by kernel_rfl) 16 ?_
   refine AnyU.abs ?_
   intro w28 hW
   have hb : Below w27.heap.size w27 w28 := by rw [hW]; exact bDrew _
   replace hs := bStep hs hb
   replace Blp := Blp.mono hb
   replace hp := hp.mono hb
   replace he3 := he3.mono hb
   replace he5a := he5a.mono hb
   replace h6 := h6.mono hb
   replace h7 := h7.mono hb
   replace h8 := h8.mono hb
   replace he11 := he11.mono hb
   replace he13a := he13a.mono hb
   replace hl := rowsJ RC.kept _ _ _ hl hb
   replace Vnx := VecR.mono RC.kept Vnx hb
   replace Ba := cellK Ba hb
   replace Bb := cellK Bb hb
   replace Bc := cellK Bc hb
   replace Bd := cellK Bd hb
   replace Be := cellK Be hb
   replace Bf := cellK Bf hb
   clear hb hW
   have B0 : w28.cell? ⟨w.heap.size, 0, none⟩ = some (.bool shp) := Blp.at 0 rfl
   have B1 : w28.cell? ⟨w.heap.size, 1, none⟩ = some (.slice ahp nhp chp) := Blp.at 1 rfl
   have B2 : w28.cell? ⟨w.heap.size, 2, none⟩ = some (.slice Ahp Nhp Chp) := Blp.at 2 rfl
   have hH := (show w28.cell? ⟨w.heap.size, 0, none⟩ = some (.bool shp) ∧ w28.cell? ⟨w.heap.size, 1, none⟩ = some (.slice ahp nhp chp) ∧ w28.cell? ⟨w.heap.size, 2, none⟩ = some (.slice Ahp Nhp Chp) ∧ w28.cell? ⟨w1.heap.size, (k + 1) * 3, none⟩ = some (.bool ge11) ∧ w28.cell? ⟨w1.heap.size, (k + 1) * 3 + 1, none⟩ = some (.slice ae11 ne11 ce11) ∧ w28.cell? ⟨w1.heap.size, (k + 1) * 3 + 2, none⟩ = some (.slice Ae11 Ne11 De11) ∧ w28.cell? ⟨bhl, ohl + k * 3, none⟩ = some (.bool ge13a) ∧ w28.cell? ⟨bhl, ohl + k * 3 + 1, none⟩ = some (.slice ae13a ne13a ce13a) ∧ w28.cell? ⟨bhl, ohl + k * 3 + 2, none⟩ = some (.slice Ae13a Ne13a De13a) from ⟨B0, B1, B2, Ba, Bb, Bc, Bd, Be, Bf⟩)
   refine U_take (i := 0) (v := ?_) rfl (by kernel_rfl) (by kernel_rfl) (by kernel_rfl) (by kernel_rfl) (fun _ _ _ h => h) (Or.inl ⟨by rfl, ?_⟩) hH ?_
   rotate_left
   ·intro w hSw
    try dsimp only at hSw
    go_simp
    try with_reducible rfl
   try simp only [Act.put, List.setIfInBounds_toArray, List.set_cons_zero, List.set_cons_succ]
   refine U_take (i := 1) (v := ?_) rfl (by kernel_rfl) (by kernel_rfl) (by kernel_rfl) (by kernel_rfl) (fun _ _ _ h => h) (Or.inl ⟨by rfl, ?_⟩) hH ?_
   rotate_left
   ·intro w hSw
    try dsimp only at hSw
    go_simp
    try with_reducible rfl
   try simp only [Act.put, List.setIfInBounds_toArray, List.set_cons_zero, List.set_cons_succ]
   refine U_take (i := 2) (v := ?_) rfl (by kernel_rfl) (by kernel_rfl) (by kernel_rfl) (by kernel_rfl) (fun _ _ _ h => h) (Or.inl ⟨by rfl, ?_⟩) hH ?_
   rotate_left
   ·intro w hSw
    try dsimp only at hSw
    go_simp
    try with_reducible rfl
   try simp only [Act.put, List.setIfInBounds_toArray, List.set_cons_zero, List.set_cons_succ]
   refine U_take (i := 3) (v := ?_) rfl (by kernel_rfl) (by kernel_rfl) (by kernel_rfl) (by kernel_rfl) (fun _ _ _ h => h) (Or.inl ⟨by rfl, ?_⟩) hH ?_
   rotate_left
   ·intro w hSw
    try dsimp only at hSw
    go_simp
    try with_reducible rfl
   try simp only [Act.put, List.setIfInBounds_toArray, List.set_cons_zero, List.set_cons_succ]
   refine U_take (i := 4) (v := ?_) rfl (by kernel_rfl) (by kernel_rfl) (by kernel_rfl) (by kernel_rfl) (fun _ _ _ h => h) (Or.inl ⟨by rfl, ?_⟩) hH ?_
   rotate_left
   ·intro w hSw
    try dsimp only at hSw
    go_simp
    try with_reducible rfl
   try simp only [Act.put, List.setIfInBounds_toArray, List.set_cons_zero, List.set_cons_succ]
   refine U_take (i := 5) (v := ?_) rfl (by kernel_rfl) (by kernel_rfl) (by kernel_rfl) (by kernel_rfl) (fun _ _ _ h => h) (Or.inl ⟨by rfl, ?_⟩) hH ?_
   rotate_left
   ·intro w hSw
    try dsimp only at hSw
    go_simp
    try with_reducible rfl
   try simp only [Act.put, List.setIfInBounds_toArray, List.set_cons_zero, List.set_cons_succ]
   refine U_take (i := 6) (v := ?_) rfl (by kernel_rfl) (by kernel_rfl) (by kernel_rfl) (by kernel_rfl) (fun _ _ _ h => h) (Or.inl ⟨by rfl, ?_⟩) hH ?_
   rotate_left
   ·intro w hSw
    try dsimp only at hSw
    go_simp
    try with_reducible rfl
   try simp only [Act.put, List.setIfInBounds_toArray, List.set_cons_zero, List.set_cons_succ]
   refine U_take (i := 7) (v := ?_) rfl (by kernel_rfl) (by kernel_rfl) (by kernel_rfl) (by kernel_rfl) (fun _ _ _ h => h) (Or.inl ⟨by rfl, ?_⟩) hH ?_
   rotate_left
   ·intro w hSw
    try dsimp only at hSw
    go_simp
    try with_reducible rfl
   try simp only [Act.put, List.setIfInBounds_toArray, List.set_cons_zero, List.set_cons_succ]
   refine U_take (i := 8) (v := ?_) rfl (by kernel_rfl) (by kernel_rfl) (by kernel_rfl) (by kernel_rfl) (fun _ _ _ h => h) (Or.inl ⟨by rfl, ?_⟩) hH ?_
   rotate_left
   ·intro w hSw
    try dsimp only at hSw
    go_simp
    try with_reducible rfl
   try simp only [Act.put, List.setIfInBounds_toArray, List.set_cons_zero, List.set_cons_succ]
   refine U_take (i := 9) (v := ?_) rfl (by kernel_rfl) (by kernel_rfl) (by kernel_rfl) (by kernel_rfl) (fun _ _ _ h => h) (Or.inl ⟨by rfl, ?_⟩) hH ?_
   rotate_left
   ·intro w hSw
    try dsimp only at hSw
    go_simp
    try with_reducible rfl
   try simp only [Act.put, List.setIfInBounds_toArray, List.set_cons_zero, List.set_cons_succ]
   refine U_take (i := 10) (v := ?_) rfl (by kernel_rfl) (by kernel_rfl) (by kernel_rfl) (by kernel_rfl) (fun _ _ _ h => h) (Or.inl ⟨by rfl, ?_⟩) hH ?_
   rotate_left
   ·intro w hSw
    try dsimp only at hSw
    go_simp
    try with_reducible rfl
   try simp only [Act.put, List.setIfInBounds_toArray, List.set_cons_zero, List.set_cons_succ]
   refine U_take (i := 11) (v := ?_) rfl (by kernel_rfl) (by kernel_rfl) (by kernel_rfl) (by kernel_rfl) (fun _ _ _ h => h) (Or.inl ⟨by rfl, ?_⟩) hH ?_
   rotate_left
   ·intro w hSw
    try dsimp only at hSw
    go_simp
    try with_reducible rfl
   try simp only [Act.put, List.setIfInBounds_toArray, List.set_cons_zero, List.set_cons_succ]
   refine U_take (i := 12) (v := ?_) rfl (by kernel_rfl) (by kernel_rfl) (by kernel_rfl) (by kernel_rfl) (fun _ _ _ h => h) (Or.inl ⟨by rfl, ?_⟩) hH ?_
   rotate_left
   ·intro w hSw
    try dsimp only at hSw
    go_simp
    try with_reducible rfl
   try simp only [Act.put, List.setIfInBounds_toArray, List.set_cons_zero, List.set_cons_succ]
   clear hH
   refine U_one (i := 13) (by kernel_rfl) rfl (fun K hK => ?_)
   go_simp
   (with_reducible refine (rMul he13a hp (SzQ.fit (HBZ.out n hn k (by omega))) (SzQ.fit sp)).mono ?_)
   rintro e w29 ⟨_, rfl, h14, hb⟩
   obtain ⟨sh14, ah14, nh14, ch14, Ah14, Nh14, Ch14, rfl⟩ := h14.shape
   replace hs := bStep hs hb
   replace Blp := Blp.mono hb
   replace hp := hp.mono hb
   replace he3 := he3.mono hb
   replace he5a := he5a.mono hb
   replace h6 := h6.mono hb
   replace h7 := h7.mono hb
   replace h8 := h8.mono hb
   replace he11 := he11.mono hb
   replace he13a := he13a.mono hb
   replace hl := rowsJ RC.kept _ _ _ hl hb
   replace Vnx := VecR.mono RC.kept Vnx hb
   replace B0 := cellK B0 hb
   replace B1 := cellK B1 hb
   replace B2 := cellK B2 hb
   replace Ba := cellK Ba hb
   replace Bb := cellK Bb hb
   replace Bc := cellK Bc hb
   replace Bd := cellK Bd hb
   replace Be := cellK Be hb
   replace Bf := cellK Bf hb
   clear hb
   try go_wp2_with fail
   refine hK.out _ _ ⟨B0, B1, B2, Ba, Bb, Bc, Bd, Be, Bf⟩ (fun hH => ?_)
   clear hK K
   try simp only [Act.put, List.setIfInBounds_toArray, List.set_cons_zero, List.set_cons_succ]
   clear hH
   refine U_one (i := 14) (by kernel_rfl) rfl (fun K hK => ?_)
   go_simp
   (with_reducible refine (rAdd he11 h14 (SzQ.fit szQ_zero) (SzQ.fit (SzQ.mul (HBZ.out n hn k (by omega)) sp))).mono ?_)
   rintro e w30 ⟨_, rfl, h15, hb⟩
   obtain ⟨sh15, ah15, nh15, ch15, Ah15, Nh15, Ch15, rfl⟩ := h15.shape
   replace hs := bStep hs hb
   replace Blp := Blp.mono hb
   replace hp := hp.mono hb
   replace he3 := he3.mono hb
   replace he5a := he5a.mono hb
   replace h6 := h6.mono hb
   replace h7 := h7.mono hb
   replace h8 := h8.mono hb
   replace he11 := he11.mono hb
   replace he13a := he13a.mono hb
   replace h14 := h14.mono hb
   replace hl := rowsJ RC.kept _ _ _ hl hb
   replace Vnx := VecR.mono RC.kept Vnx hb
   replace B0 := cellK B0 hb
   replace B1 := cellK B1 hb
   replace B2 := cellK B2 hb
   replace Ba := cellK Ba hb
   replace Bb := cellK Bb hb
   replace Bc := cellK Bc hb
   replace Bd := cellK Bd hb
   replace Be := cellK Be hb
   replace Bf := cellK Bf hb
   clear hb
   try go_wp2_with fail
   refine hK.out _ _ ⟨B0, B1, B2, Ba, Bb, Bc, Bd, Be, Bf⟩ (fun hH => ?_)
   clear hK K
   try simp only [Act.put, List.setIfInBounds_toArray, List.set_cons_zero, List.set_cons_succ]
   refine U_take (i := 15) (v := ?_) rfl (by kernel_rfl) (by kernel_rfl) (by kernel_rfl) (by kernel_rfl) (fun _ _ _ h => h) (Or.inl ⟨by rfl, ?_⟩) hH ?_
   rotate_left
   ·intro w hSw
    try dsimp only at hSw
    go_simp
    try with_reducible rfl
   try simp only [Act.put, List.setIfInBounds_toArray, List.set_cons_zero, List.set_cons_succ]
   clear hH
   have fVnx := Vnx.free
   have LVnx : w1.heap.size < w30.heap.size := Vnx.lt
   refine U_last (by kernel_rfl) rfl (by kernel_rfl) (fun K hK => ?_)
   go_simp
   refine hK.out _ _ ?_
   clear hK K
   intro w31 hW
   have hG : Gr [w1.heap.size] w30 w31 := by rw [hW]; exact (Gr.refl _ _).set.set.set
   have hsz := hs.size
   have hbw : Below w.heap.size w30 w31 := hG.below1 hs.size (by first | omega | assumption)
   have hk : KeepD w30 w31 := hG.keep ⟨⟨_, Vnx.ty, by decide⟩, True.intro⟩
   have V1nx : VecR 41 3 RC w31 (w1.heap.size) ((evM p n k).set (k + 1) (0 + ((nthQ (binL p n) k) * p))) := by rw [hW]; exact (Vnx.put3 RC.kept (show (k + 1) < (evM p n k).length by (first | (rw [evL_len]; omega) | (rw [evM_len]; omega))) (by decide) ⟨_, _, _, rfl, h15⟩ ((Gr.refl _ _)))
   rw [evM_set (by omega)] at V1nx
   replace hs := hs.trans hbw
   replace hl := hl.gr RC.kept hG (notMem1 (by omega)) hk
   replace Blp := hG.bx Blp (notMem1 (by omega))
   replace Vnx := V1nx
   clear V1nx
   replace hp := hp.keep hk
   replace he3 := he3.keep hk
   replace he5a := he5a.keep hk
   replace h6 := h6.keep hk
   replace h7 := h7.keep hk
   replace h8 := h8.keep hk
   replace he11 := he11.keep hk
   replace he13a := he13a.keep hk
   replace h14 := h14.keep hk
   replace h15 := h15.keep hk
   clear hW hG hk hbw hsz
   try simp only [Act.put, List.setIfInBounds_toArray, List.set_cons_zero, List.set_cons_succ]
   clear B0 B1 B2 Ba Bb Bc Bd Be Bf
   go_wp2
   go_roundw
   case rel => exact ⟨k + 1, by omega, by go_num, hs, Blp, hp, hl, Vnx⟩
   all_goals first | (simp [intOf]; done) | (simp [intOf]; omega)
  ·have q1d : ((k : Int) < ((binL p n).length : Int)) = False := eq_false (by omega)
   go_wp2
   obtain rfl : k = n + 1 := by omega
   have hR := Vnx.rows (by rw [evL_len]; omega)
   rw [evL_len, evL_all] at hR
   have hR := (show Rows 3 41 RC wr (.slice (some ⟨w1.heap.size, 0, none⟩) ((binL p n).length + 1) ((binL p n).length + 1)) (binL p (n + 1)) from by rw [binL_len]; exact hR)
   clear Vnx
   go_ret
   exact ⟨_, rfl, hR, hs⟩
theorem r8_chances {v : Value} {p : Rat} {n : Nat} (w : World) (hp : RV w v p) (sp : SzQ 1 p) (h0 : 0 ≤ p) (h1 : p ≤ 1) (hn : n ≤ 64) :
  Calls Tryz.prog 66 #[.int .i64 n, v] w (Ret1 (fun w v => Rows 3 41 RC w v (binL p n)) w) := by
 obtain ⟨shp, ahp, nhp, chp, Ahp, Nhp, Chp, rfl⟩ := hp.shape
 have hs := Below.refl w.heap.size w
 have HP := Lib.hid (And.intro h0 h1)
 have HBZ := Lib.hid (fun m (hm : m ≤ 64) => binL_mid h0 h1 sp hm)
 clear h0 h1
 go_enter Tryz.func66, Tryz.ntmps66
 go_wp2_with fail
 refine Calls.abs ?_
 intro w1 hW
 have hG : Gr [] w w1 := by rw [hW]; exact (Gr.refl _ _).alloc
 have hbw : Below w.heap.size w w1 := hG.below0 hs.size
 have hk : KeepD w w1 := hG.keep True.intro
 have sz_w1 : w.heap.size ≤ w.heap.size := hs.size
 have Blp : Bx w1 (w.heap.size) 41 #[.bool shp, .slice ahp nhp chp, .slice Ahp Nhp Chp] := by rw [hW]; exact (Bx.new0 _ _ _)
 replace hs := hs.trans hbw
 replace hp := hp.keep hk
 clear hW hG hk hbw
 have hz_w1 : w.heap.size < w1.heap.size := Blp.lt
 with_reducible refine (r_one _).mono ?_
 rintro e w2 ⟨_, rfl, h1, hb⟩
 obtain ⟨sh1, ah1, nh1, ch1, Ah1, Nh1, Ch1, rfl⟩ := h1.shape
 replace hs := bStep hs hb
 replace Blp := Blp.mono hb
 replace hp := hp.mono hb
 clear hb
 go_wp2
 refine Code.abs ?_
 intro w3 hW
 have hG : Gr [] w2 w3 := by rw [hW]; exact (Gr.refl _ _).alloc
 have hbw : Below w.heap.size w2 w3 := hG.below0 hs.size
 have hk : KeepD w2 w3 := hG.keep True.intro
 have sz_w3 : w.heap.size ≤ w2.heap.size := hs.size
 have np_w3 : w.heap.size < w2.heap.size := Blp.lt
 have Bj : Bx w3 (w2.heap.size) 41 #[.bool sh1, .slice ah1 nh1 ch1, .slice Ah1 Nh1 Ch1] := by rw [hW]; exact (Bx.new0 _ _ _)
 replace hs := hs.trans hbw
 replace Blp := hG.bx Blp notMem0
 replace hp := hp.keep hk
 replace h1 := h1.keep hk
 clear hW hG hk hbw
 have hz_w3 : w2.heap.size < w3.heap.size := Bj.lt
 go_loopw [5, 6] (fun s5 s6 wq => ∃ k : Nat, k ≤ n ∧ s6 = .int .i64 k ∧ Below w.heap.size w wq ∧ Bx wq (w.heap.size) 41 #[.bool shp, .slice ahp nhp chp, .slice Ahp Nhp Chp] ∧ Bx wq (w2.heap.size) 41 #[.bool sh1, .slice ah1 nh1 ch1, .slice Ah1 Nh1 Ch1] ∧ RV wq (.agg #[.bool shp, .slice ahp nhp chp, .slice Ahp Nhp Chp]) (p) ∧ RV wq (.agg #[.bool sh1, .slice ah1 nh1 ch1, .slice Ah1 Nh1 Ch1]) (1) ∧ Rows 3 41 RC wq s5 (binL p k)) (fun s5 s6 _ => n - (intOf s6).toNat)
 case atStart => exact ⟨0, Nat.zero_le _, rfl, hs, Blp, Bj, hp, h1, rowsR1 Bj h1⟩
 case round =>
  clear Blp Bj hp h1 hs
  obtain ⟨k, k_le, rfl, hs, Blp, Bj, hp, h1, hl⟩ := hrel
  obtain ⟨bhl, ohl, khl, rfl, hl1, hl2, -⟩ := hl.open_ (by rw [binL_len]; omega)
  by_cases q2 : k < n
  ·have q2d : ((k : Int) < (n : Int)) = True := eq_true (by omega)
   have B0 : wr.cell? ⟨w.heap.size, 0, none⟩ = some (.bool shp) := Blp.at 0 rfl
   have B1 : wr.cell? ⟨w.heap.size, 1, none⟩ = some (.slice ahp nhp chp) := Blp.at 1 rfl
   have B2 : wr.cell? ⟨w.heap.size, 2, none⟩ = some (.slice Ahp Nhp Chp) := Blp.at 2 rfl
   have Lp : w.heap.size < wr.heap.size := Blp.lt
   go_wp2_with fail
   clear B0 B1 B2 Lp
   with_reducible refine (r8_event (n := k) _ hl hp sp HP.out.1 HP.out.2 (by omega)).mono ?_
   rintro e w24 ⟨_, rfl, h3, hb⟩
   obtain ⟨bh3, oh3, kh3, rfl, h31, h32, -⟩ := h3.open_ (by rw [binL_len]; omega)
   replace hs := bStep hs hb
   replace Blp := Blp.mono hb
   replace Bj := Bj.mono hb
   replace hp := hp.mono hb
   replace h1 := h1.mono hb
   replace hl := rowsJ RC.kept _ _ _ hl hb
   clear hb
   go_wp2
   go_roundw
   case rel => exact ⟨k + 1, by omega, by go_num, hs, Blp, Bj, hp, h1, h3⟩
   all_goals first | (simp [intOf]; done) | (simp [intOf]; omega)
  ·have q2d : ((k : Int) < (n : Int)) = False := eq_false (by omega)
   go_wp2
   obtain rfl : k = n := by omega
   go_ret
   exact ⟨_, rfl, hl, hs⟩
theorem r8_from {v : Value} {p : Rat} {n K : Nat} {k : Int} (w : World) (hl : Rows 3 41 RC w v (binL p n)) (hk : max k 0 = (K : Int)) (hK : K ≤ 9223372036854775807) (sp : SzQ 1 p) (h0 : 0 ≤ p) (h1 : p ≤ 1) (hn : n ≤ 64) :
  Calls Tryz.prog 68 #[v, .int .i64 k] w (RetQ w (tlQ p n K)) := by
 obtain ⟨bhl, ohl, khl, rfl, hl1, hl2, -⟩ := hl.open_ (by rw [binL_len]; omega)
 have hs := Below.refl w.heap.size w
 have kl1 : (binL p n).length ≤ n + 1 := Nat.le_of_eq (binL_len p n)
 have kl2 : n + 1 ≤ (binL p n).length := Nat.le_of_eq (binL_len p n).symm
 have HK := Lib.hid hk
 have HBZ := Lib.hid (fun m (hm : m ≤ 64) => binL_mid h0 h1 sp hm)
 have HSZ := Lib.hid (fun m (hm : m ≤ 65) => sum_mid h0 h1 sp hn K m hm)
 clear h0 h1 hk
 go_enter Tryz.func68, Tryz.ntmps68
 go_wp2_with fail
 refine Calls.abs ?_
 intro w1 hW
 have hG : Gr [] w w1 := by rw [hW]; exact (Gr.refl _ _).alloc
 have hbw : Below w.heap.size w w1 := hG.below0 hs.size
 have hk : KeepD w w1 := hG.keep True.intro
 have sz_w1 : w.heap.size ≤ w.heap.size := hs.size
 have nhl_w1 : bhl < w.heap.size := hl.lt (by omega)
 have Blk : Bx w1 (w.heap.size) 41 #[.bool false, .slice none 0 0, .slice none 0 0] := by rw [hW]; exact (Bx.new0 _ _ _)
 replace hs := hs.trans hbw
 replace hl := rowsJ RC.kept _ _ _ hl (hG.below0 (Nat.le_refl _))
 clear hW hG hk hbw
 have hz_w1 : w.heap.size < w1.heap.size := Blk.lt
 with_reducible refine (r_zero _).mono ?_
 rintro e w2 ⟨_, rfl, h1, hb⟩
 obtain ⟨sh1, ah1, nh1, ch1, Ah1, Nh1, Ch1, rfl⟩ := h1.shape
 replace hs := bStep hs hb
 replace Blk := Blk.mono hb
 replace hl := rowsJ RC.kept _ _ _ hl hb
 clear hb
 go_wp2
 refine Code.abs ?_
 intro w3 hW
 have hG : Gr [] w2 w3 := by rw [hW]; exact (Gr.refl _ _).alloc
 have hbw : Below w.heap.size w2 w3 := hG.below0 hs.size
 have hk : KeepD w2 w3 := hG.keep True.intro
 have sz_w3 : w.heap.size ≤ w2.heap.size := hs.size
 have nk_w3 : w.heap.size < w2.heap.size := Blk.lt
 have nhl_w3 : bhl < w2.heap.size := hl.lt (by omega)
 have B3 : Bx w3 (w2.heap.size) 41 #[.bool sh1, .slice ah1 nh1 ch1, .slice Ah1 Nh1 Ch1] := by rw [hW]; exact (Bx.new0 _ _ _)
 replace hs := hs.trans hbw
 replace hl := rowsJ RC.kept _ _ _ hl (hG.below0 (Nat.le_refl _))
 replace Blk := hG.bx Blk notMem0
 replace h1 := h1.keep hk
 clear hW hG hk hbw
 have hz_w3 : w2.heap.size < w3.heap.size := B3.lt
 rw [HK.out]
 go_loopw [6] (fun s6 wq => ∃ j : Nat, K ≤ j ∧ j ≤ max K (n + 1) ∧ s6 = .int .i64 j ∧ Below w.heap.size w wq ∧ Bx wq (w.heap.size) 41 #[.bool false, .slice none 0 0, .slice none 0 0] ∧ Rows 3 41 RC wq (.slice (some ⟨bhl, ohl, none⟩) (binL p n).length khl) ((binL p n)) ∧ BoxR wq (w2.heap.size) (sumF (binQ p n) K (j - K))) (fun s6 _ => max K (n + 1) - (intOf s6).toNat)
 case atStart => exact ⟨K, Nat.le_refl _, by omega, rfl, hs, Blk, hl, ⟨_, _, _, _, _, _, _, B3, (h1.of_eq (by rw [Nat.sub_self]; rfl))⟩⟩
 case round =>
  clear Blk B3 h1 hl hs
  obtain ⟨j, k_ge, k_le, rfl, hs, Blk, hl, ⟨sh2, ah2, nh2, ch2, Ah2, Nh2, Ch2, B3, h2⟩⟩ := hrel
  by_cases q3 : j < (binL p n).length
  ·have q3d : ((j : Int) < ((binL p n).length : Int)) = True := eq_true (by omega)
   go_upto_region 5 with fail
   have BI4a : j < (binL p n).length := by omega
   have BI4b : ((j : Int) : Int) < ((binL p n).length : Int) := by omega
   obtain ⟨ge5a, ae5a, ne5a, ce5a, Ae5a, Ne5a, De5a, B4, B5, B6, he5a, le5⟩ := rowR_at hl (show j < (binL p n).length by omega)
   refine U_region (S := fun w' => w'.cell? ⟨w2.heap.size, 0, none⟩ = some (.bool sh2) ∧ w'.cell? ⟨w2.heap.size, 1, none⟩ = some (.slice ah2 nh2 ch2) ∧ w'.cell? ⟨w2.heap.size, 2, none⟩ = some (.slice Ah2 Nh2 Ch2) ∧ w'.cell? ⟨bhl, ohl + j * 3, none⟩ = some (.bool ge5a) ∧ w'.cell? ⟨bhl, ohl + j * 3 + 1, none⟩ = some (.slice ae5a ne5a ce5a) ∧ w'.cell? ⟨bhl, ohl + j * 3 + 2, none⟩ = some (.slice Ae5a Ne5a De5a)) (by kernel_rfl) 6 ?_
   refine AnyU.abs ?_
   intro w24 hW
   have hb : Below wr.heap.size wr w24 := by rw [hW]; exact bDrew _
   replace hs := bStep hs hb
   replace Blk := Blk.mono hb
   replace B3 := B3.mono hb
   replace h2 := h2.mono hb
   replace he5a := he5a.mono hb
   replace hl := rowsJ RC.kept _ _ _ hl hb
   replace B4 := cellK B4 hb
   replace B5 := cellK B5 hb
   replace B6 := cellK B6 hb
   clear hb hW
   have Bg : w24.cell? ⟨w2.heap.size, 0, none⟩ = some (.bool sh2) := B3.at 0 rfl
   have Bh : w24.cell? ⟨w2.heap.size, 1, none⟩ = some (.slice ah2 nh2 ch2) := B3.at 1 rfl
   have Bi : w24.cell? ⟨w2.heap.size, 2, none⟩ = some (.slice Ah2 Nh2 Ch2) := B3.at 2 rfl
   have hH := (show w24.cell? ⟨w2.heap.size, 0, none⟩ = some (.bool sh2) ∧ w24.cell? ⟨w2.heap.size, 1, none⟩ = some (.slice ah2 nh2 ch2) ∧ w24.cell? ⟨w2.heap.size, 2, none⟩ = some (.slice Ah2 Nh2 Ch2) ∧ w24.cell? ⟨bhl, ohl + j * 3, none⟩ = some (.bool ge5a) ∧ w24.cell? ⟨bhl, ohl + j * 3 + 1, none⟩ = some (.slice ae5a ne5a ce5a) ∧ w24.cell? ⟨bhl, ohl + j * 3 + 2, none⟩ = some (.slice Ae5a Ne5a De5a) from ⟨Bg, Bh, Bi, B4, B5, B6⟩)
   refine U_take (i := 0) (v := ?_) rfl (by kernel_rfl) (by kernel_rfl) (by kernel_rfl) (by kernel_rfl) (fun _ _ _ h => h) (Or.inl ⟨by rfl, ?_⟩) hH ?_
   rotate_left
   ·intro w hSw
    try dsimp only at hSw
    go_simp
    try with_reducible rfl
   try simp only [Act.put, List.setIfInBounds_toArray, List.set_cons_zero, List.set_cons_succ]
   refine U_take (i := 1) (v := ?_) rfl (by kernel_rfl) (by kernel_rfl) (by kernel_rfl) (by kernel_rfl) (fun _ _ _ h => h) (Or.inl ⟨by rfl, ?_⟩) hH ?_
   rotate_left
   ·intro w hSw
    try dsimp only at hSw
    go_simp
    try with_reducible rfl
   try simp only [Act.put, List.setIfInBounds_toArray, List.set_cons_zero, List.set_cons_succ]
   refine U_take (i := 2) (v := ?_) rfl (by kernel_rfl) (by kernel_rfl) (by kernel_rfl) (by kernel_rfl) (fun _ _ _ h => h) (Or.inl ⟨by rfl, ?_⟩) hH ?_
   rotate_left
   ·intro w hSw
    try dsimp only at hSw
    go_simp
    try with_reducible rfl
   try simp only [Act.put, List.setIfInBounds_toArray, List.set_cons_zero, List.set_cons_succ]
   refine U_take (i := 3) (v := ?_) rfl (by kernel_rfl) (by kernel_rfl) (by kernel_rfl) (by kernel_rfl) (fun _ _ _ h => h) (Or.inl ⟨by rfl, ?_⟩) hH ?_
   rotate_left
   ·intro w hSw
    try dsimp only at hSw
    go_simp
    try with_reducible rfl
   try simp only [Act.put, List.setIfInBounds_toArray, List.set_cons_zero, List.set_cons_succ]
   refine U_take (i := 4) (v := ?_) rfl (by kernel_rfl) (by kernel_rfl) (by kernel_rfl) (by kernel_rfl) (fun _ _ _ h => h) (Or.inl ⟨by rfl, ?_⟩) hH ?_
   rotate_left
   ·intro w hSw
    try dsimp only at hSw
    go_simp
    try with_reducible rfl
   try simp only [Act.put, List.setIfInBounds_toArray, List.set_cons_zero, List.set_cons_succ]
   clear hH
   refine U_one (i := 5) (by kernel_rfl) rfl (fun K hK => ?_)
   go_simp
   (with_reducible refine (rAdd h2 he5a (SzQ.fit (HSZ.out _ (by omega))) (SzQ.fit (HBZ.out n hn j (by omega)))).mono ?_)
   rintro e w25 ⟨_, rfl, h6, hb⟩
   obtain ⟨sh6, ah6, nh6, ch6, Ah6, Nh6, Ch6, rfl⟩ := h6.shape
   replace hs := bStep hs hb
   replace Blk := Blk.mono hb
   replace B3 := B3.mono hb
   replace h2 := h2.mono hb
   replace he5a := he5a.mono hb
   replace hl := rowsJ RC.kept _ _ _ hl hb
   replace Bg := cellK Bg hb
   replace Bh := cellK Bh hb
   replace Bi := cellK Bi hb
   replace B4 := cellK B4 hb
   replace B5 := cellK B5 hb
   replace B6 := cellK B6 hb
   clear hb
   try go_wp2_with fail
   refine hK.out _ _ ⟨Bg, Bh, Bi, B4, B5, B6⟩ (fun hH => ?_)
   clear hK K
   try simp only [Act.put, List.setIfInBounds_toArray, List.set_cons_zero, List.set_cons_succ]
   clear hH
   have Bg : w25.cell? ⟨w2.heap.size, 0, none⟩ = some (.bool sh2) := B3.at 0 rfl
   have Bh : w25.cell? ⟨w2.heap.size, 1, none⟩ = some (.slice ah2 nh2 ch2) := B3.at 1 rfl
   have Bi : w25.cell? ⟨w2.heap.size, 2, none⟩ = some (.slice Ah2 Nh2 Ch2) := B3.at 2 rfl
   have fsum := B3.free
   have Lsum : w2.heap.size < w25.heap.size := B3.lt
   refine U_last (by kernel_rfl) rfl (by kernel_rfl) (fun K hK => ?_)
   go_simp
   refine hK.out _ _ ?_
   clear hK K
   intro w26 hW
   have hG : Gr [w2.heap.size] w25 w26 := by rw [hW]; exact (Gr.refl _ _).set.set.set
   have hsz := hs.size
   have lsum := B3.lt
   have hbw : Below w.heap.size w25 w26 := hG.below1 hs.size (by first | omega | assumption)
   have hk : KeepD w25 w26 := hG.keep ⟨⟨_, B3.ty, by decide⟩, True.intro⟩
   have Bl1sum : Bx w26 (w2.heap.size) 41 #[.bool sh6, .slice ah6 nh6 ch6, .slice Ah6 Nh6 Ch6] := by rw [hW]; exact B3.set3
   replace hs := hs.trans hbw
   replace hl := hl.gr RC.kept hG (notMem1 (by omega)) hk
   replace Blk := hG.bx Blk (notMem1 (by omega))
   replace B3 := Bl1sum
   clear Bl1sum
   replace h2 := h2.keep hk
   replace he5a := he5a.keep hk
   replace h6 := h6.keep hk
   clear hW hG hk hbw hsz lsum
   try simp only [Act.put, List.setIfInBounds_toArray, List.set_cons_zero, List.set_cons_succ]
   clear Bg Bh Bi B4 B5 B6
   go_wp2
   go_roundw
   case rel => exact ⟨j + 1, by omega, by omega, by go_num, hs, Blk, hl, ⟨_, _, _, _, _, _, _, B3, h6.of_eq (sum_next k_ge (by omega))⟩⟩
   all_goals first | (simp [intOf]; done) | (simp [intOf]; omega)
  ·have q3d : ((j : Int) < ((binL p n).length : Int)) = False := eq_false (by omega)
   have Bg : wr.cell? ⟨w2.heap.size, 0, none⟩ = some (.bool sh2) := B3.at 0 rfl
   have Bh : wr.cell? ⟨w2.heap.size, 1, none⟩ = some (.slice ah2 nh2 ch2) := B3.at 1 rfl
   have Bi : wr.cell? ⟨w2.heap.size, 2, none⟩ = some (.slice Ah2 Nh2 Ch2) := B3.at 2 rfl
   have Lsum : w2.heap.size < wr.heap.size := B3.lt
   have Bn : wr.cell? ⟨w.heap.size, 0, none⟩ = some (.bool false) := Blk.at 0 rfl
   have Bo : wr.cell? ⟨w.heap.size, 1, none⟩ = some (.slice none 0 0) := Blk.at 1 rfl
   have Bp : wr.cell? ⟨w.heap.size, 2, none⟩ = some (.slice none 0 0) := Blk.at 2 rfl
   have fk := Blk.free
   have Lk : w.heap.size < wr.heap.size := Blk.lt
   go_wp2
   clear Bg Bh Bi Bn Bo Bp fk Lsum Lk
   refine bodyPost.abs ?_
   intro w24 hW
   have hG : Gr [w.heap.size] wr w24 := by rw [hW]; exact (Gr.refl _ _).set.set.set
   have hsz := hs.size
   have lk := Blk.lt
   have hbw : Below w.heap.size wr w24 := hG.below1 hs.size (by first | omega | assumption)
   have hk : KeepD wr w24 := hG.keep ⟨⟨_, Blk.ty, by decide⟩, True.intro⟩
   have Bl1k : Bx w24 (w.heap.size) 41 #[.bool sh2, .slice ah2 nh2 ch2, .slice Ah2 Nh2 Ch2] := by rw [hW]; exact Blk.set3
   replace hs := hs.trans hbw
   replace hl := hl.gr RC.kept hG (notMem1 (by omega)) hk
   replace B3 := hG.bx B3 (notMem1 (by omega))
   replace Blk := Bl1k
   clear Bl1k
   replace h2 := h2.keep hk
   clear hW hG hk hbw hsz lk
   have Bn : w24.cell? ⟨w.heap.size, 0, none⟩ = some (.bool sh2) := Blk.at 0 rfl
   have Bo : w24.cell? ⟨w.heap.size, 1, none⟩ = some (.slice ah2 nh2 ch2) := Blk.at 1 rfl
   have Bp : w24.cell? ⟨w.heap.size, 2, none⟩ = some (.slice Ah2 Nh2 Ch2) := Blk.at 2 rfl
   exact bodyPost_ret (v := .agg #[.bool sh2, .slice ah2 nh2 ch2, .slice Ah2 Nh2 Ch2]) (by simp [results, Tryz.results68, go_sem, Bn, Bo, Bp]) rfl ⟨_, rfl, h2.of_eq (sum_tail p (by omega)), hs⟩
end Go.Proofs.YtlmemilmhdhgbaaGreat
