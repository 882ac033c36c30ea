/-
  Reference 08: rest, Chance, event, chances, from, tail, Tail, Rank, Coupons.
-/
import Derived.Test.YtmnipggjjcmjkaaGreatEvent0
import Derived.Test.YtmnipggjjcmjkaaGreatAlB
set_option linter.unusedSimpArgs false
set_option linter.unusedVariables false
namespace Go.Proofs.YtmnipggjjcmjkaaGreat
open Go.RowKit Dg
attribute [local go_sem ↓] Go.wp_at_zero Go.wp_at_succ

theorem r_one (w : World) : Calls Tryz.prog 68 #[.int .i64 1] w (RetQ w 1) := r_Int_calls 1 w (by decide) (by decide)
theorem r_zero (w : World) : Calls Tryz.prog 68 #[.int .i64 0] w (RetQ w 0) := r_Int_calls 0 w (by decide) (by decide)
theorem rR_info : (Tryz.prog.info? 36).map (fun i => (i.zero, i.size, i.bytes)) = some (some (.agg #[.bool false, .slice none 0 0, .slice none 0 0]), 3, 56) := by kernel_rfl
theorem rowsR1 {T : TypeId} {w : World} {g : Nat} {a b c : Value} {q : Rat} (h : Bx w g T #[a, b, c]) (hq : RV w (.agg #[a, b, c]) q) : Rows 3 T RC w (.slice (some ⟨g, 0, none⟩) 1 1) [q] := by
  refine ⟨_, 1, rfl, Nat.le_refl _, by decide, (fun e => by cases e), (fun a ea _ => by cases ea; exact h.ty), fun i x hx => ?_⟩
  match i, hx with
  | 0, hx =>
    cases hx
    refine ⟨g, 0, [a, b, c], rfl, rfl, fun j u hu => ?_, _, _, _, rfl, hq⟩
    match j, hu with
    | 0, hu => cases hu; exact h.at 0 rfl
    | 1, hu => cases hu; exact h.at 1 rfl
    | 2, hu => cases hu; exact h.at 2 rfl

set_option maxRecDepth 100000 in
set_option maxHeartbeats 4000000 in
theorem r8_rest (vx : Value) (x : Rat) (w : World) (hx : RV w vx x) (sx : Mid x) :
    Calls Tryz.prog 73 #[vx] w (RetQ w (1 - x)) := by
  obtain ⟨shx, ahx, nhx, chx, Ahx, Nhx, Chx, rfl⟩ := hx.shape
  have hs := Below.refl w.heap.size w
  go_enter Tryz.func73, Tryz.ntmps73
  go_upto_region 1 with fail
  refine Code.abs ?_
  intro w1 hW
  have hG : Gr [] w w1 := by rw [hW]; exact (Gr.refl _ _).alloc.alloc
  have hbw : Below w.heap.size w w1 := hG.below0 hs.size
  have hk : KeepD w w1 := hG.keep True.intro
  have sz_w1 : w.heap.size ≤ w.heap.size := hs.size
  have Blx : Bx w1 (w.heap.size) 36 #[.bool shx, .slice ahx nhx chx, .slice Ahx Nhx Chx] := by rw [hW]; exact ((Bx.new0 _ _ _).alloc _)
  have Blk : Bx w1 (w.heap.size + 1) 36 #[.bool false, .slice none 0 0, .slice none 0 0] := by rw [hW]; exact (Bx.new0 _ _ _)
  replace hs := hs.trans hbw
  replace hx := hx.keep hk
  clear hW hG hk hbw
  have hz_w1 : w.heap.size + 1 < w1.heap.size := Blk.lt
  refine U_region (S := fun w' => w'.cell? ⟨w.heap.size, 0, none⟩ = some (.bool shx) ∧ w'.cell? ⟨w.heap.size, 1, none⟩ = some (.slice ahx nhx chx) ∧ w'.cell? ⟨w.heap.size, 2, none⟩ = some (.slice Ahx Nhx Chx)) (by kernel_rfl) 3 ?_
  refine AnyU.abs ?_
  intro w2 hW
  have hb : Below w1.heap.size w1 w2 := by rw [hW]; exact bDrew _
  replace hs := bStep hs hb
  replace Blx := Blx.mono hb
  replace Blk := Blk.mono hb
  replace hx := hx.mono hb
  clear hb hW
  have cx_0 : w2.cell? ⟨w.heap.size, 0, none⟩ = some (.bool shx) := Blx.at 0 rfl
  have cx_1 : w2.cell? ⟨w.heap.size, 1, none⟩ = some (.slice ahx nhx chx) := Blx.at 1 rfl
  have cx_2 : w2.cell? ⟨w.heap.size, 2, none⟩ = some (.slice Ahx Nhx Chx) := Blx.at 2 rfl
  have hH := (show w2.cell? ⟨w.heap.size, 0, none⟩ = some (.bool shx) ∧ w2.cell? ⟨w.heap.size, 1, none⟩ = some (.slice ahx nhx chx) ∧ w2.cell? ⟨w.heap.size, 2, none⟩ = some (.slice Ahx Nhx Chx) from ⟨cx_0, cx_1, cx_2⟩)
  refine U_take (i := 1) (v := ?_) rfl (by kernel_rfl) (by kernel_rfl) (by kernel_rfl) (by kernel_rfl) (fun _ _ _ h => h) (Or.inl ⟨by rfl, ?_⟩) hH ?_
  rotate_left
  · intro w hSw
    try dsimp only at hSw
    go_simp
    try with_reducible rfl
  try simp only [Act.put, List.setIfInBounds_toArray, List.set_cons_zero, List.set_cons_succ]
  clear hH
  refine U_one (i := 0) (by kernel_rfl) rfl (fun K hK => ?_)
  go_simp
  (with_reducible refine (r_one _).mono ?_)
  rintro e w3 ⟨_, rfl, h1, hb⟩
  obtain ⟨sh1, ah1, nh1, ch1, Ah1, Nh1, Ch1, rfl⟩ := h1.shape
  replace hs := bStep hs hb
  replace Blx := Blx.mono hb
  replace Blk := Blk.mono hb
  replace hx := hx.mono hb
  replace cx_0 := cellK cx_0 hb
  replace cx_1 := cellK cx_1 hb
  replace cx_2 := cellK cx_2 hb
  clear hb
  try go_wp2_with fail
  refine hK.out _ _ ⟨cx_0, cx_1, cx_2⟩ (fun hH => ?_)
  clear hK K
  try simp only [Act.put, List.setIfInBounds_toArray, List.set_cons_zero, List.set_cons_succ]
  clear hH
  refine U_one (i := 2) (by kernel_rfl) rfl (fun K hK => ?_)
  go_simp
  (with_reducible refine (rSub h1 hx (SzQ.fit szQ_one) (SzQ.fit sx)).mono ?_)
  rintro e w4 ⟨_, rfl, h2, hb⟩
  obtain ⟨sh2, ah2, nh2, ch2, Ah2, Nh2, Ch2, rfl⟩ := h2.shape
  replace hs := bStep hs hb
  replace Blx := Blx.mono hb
  replace Blk := Blk.mono hb
  replace hx := hx.mono hb
  replace h1 := h1.mono hb
  replace cx_0 := cellK cx_0 hb
  replace cx_1 := cellK cx_1 hb
  replace cx_2 := cellK cx_2 hb
  clear hb
  try go_wp2_with fail
  refine hK.out _ _ ⟨cx_0, cx_1, cx_2⟩ (fun hH => ?_)
  clear hK K
  try simp only [Act.put, List.setIfInBounds_toArray, List.set_cons_zero, List.set_cons_succ]
  clear hH
  have ck_0 : w4.cell? ⟨w.heap.size + 1, 0, none⟩ = some (.bool false) := Blk.at 0 rfl
  have ck_1 : w4.cell? ⟨w.heap.size + 1, 1, none⟩ = some (.slice none 0 0) := Blk.at 1 rfl
  have ck_2 : w4.cell? ⟨w.heap.size + 1, 2, none⟩ = some (.slice none 0 0) := Blk.at 2 rfl
  have fk := Blk.free
  have Lk : w.heap.size + 1 < w4.heap.size := Blk.lt
  refine U_last (by kernel_rfl) rfl (by kernel_rfl) (fun K hK => ?_)
  go_simp
  refine hK.out _ _ ?_
  clear hK K
  intro w5 hW
  have hG : Gr [w.heap.size + 1] w4 w5 := by rw [hW]; exact (Gr.refl _ _).set.set.set
  have hsz := hs.size
  have lk := Blk.lt
  have hbw : Below w.heap.size w4 w5 := hG.below1 hs.size (by first | omega | assumption)
  have hk : KeepD w4 w5 := hG.keep ⟨⟨_, Blk.ty, by decide⟩, True.intro⟩
  have Bl1k : Bx w5 (w.heap.size + 1) 36 #[.bool sh2, .slice ah2 nh2 ch2, .slice Ah2 Nh2 Ch2] := by rw [hW]; exact Blk.set3
  replace hs := hs.trans hbw
  replace Blx := hG.bx Blx (notMem1 (by omega))
  replace Blk := Bl1k
  clear Bl1k
  replace hx := hx.keep hk
  replace h1 := h1.keep hk
  replace h2 := h2.keep hk
  clear hW hG hk hbw hsz lk
  try simp only [Act.put, List.setIfInBounds_toArray, List.set_cons_zero, List.set_cons_succ]
  clear cx_0 cx_1 cx_2
  go_wp2
  have ck_0 : w5.cell? ⟨w.heap.size + 1, 0, none⟩ = some (.bool sh2) := Blk.at 0 rfl
  have ck_1 : w5.cell? ⟨w.heap.size + 1, 1, none⟩ = some (.slice ah2 nh2 ch2) := Blk.at 1 rfl
  have ck_2 : w5.cell? ⟨w.heap.size + 1, 2, none⟩ = some (.slice Ah2 Nh2 Ch2) := Blk.at 2 rfl
  exact bodyPost_ret (v := .agg #[.bool sh2, .slice ah2 nh2 ch2, .slice Ah2 Nh2 Ch2]) (by simp [results, Tryz.results73, go_sem, ck_0, ck_1, ck_2]) rfl ⟨_, rfl, h2, hs⟩

set_option maxRecDepth 100000 in
set_option maxHeartbeats 4000000 in
theorem r8_Chance (vx : Value) (x : Rat) (w : World) (hx : RV w vx x) (sx : Mid x) {rB : Bool} (hRB : rB = decide (0 ≤ x ∧ x ≤ 1)) :
    Calls Tryz.prog 67 #[vx] w (RetV w (.bool rB)) := by
  obtain ⟨shx, ahx, nhx, chx, Ahx, Nhx, Chx, rfl⟩ := hx.shape
  have hs := Below.refl w.heap.size w
  have HRB := Lib.hid hRB
  clear hRB
  go_enter Tryz.func67, Tryz.ntmps67
  go_upto_region 1 with fail
  refine Code.abs ?_
  intro w1 hW
  have hG : Gr [] w w1 := by rw [hW]; exact (Gr.refl _ _).alloc
  have hbw : Below w.heap.size w w1 := hG.below0 hs.size
  have hk : KeepD w w1 := hG.keep True.intro
  have sz_w1 : w.heap.size ≤ w.heap.size := hs.size
  have Blp : Bx w1 (w.heap.size) 36 #[.bool shx, .slice ahx nhx chx, .slice Ahx Nhx Chx] := by rw [hW]; exact (Bx.new0 _ _ _)
  replace hs := hs.trans hbw
  replace hx := hx.keep hk
  clear hW hG hk hbw
  have hz_w1 : w.heap.size < w1.heap.size := Blp.lt
  obtain ⟨sg1, Hsg1⟩ : ∃ s : Int, s = sgQ x := ⟨_, rfl⟩
  replace Hsg1 := Lib.hid Hsg1
  by_cases q2 : 0 ≤ x
  · have q2_ : 0 ≤ sg1 := by have h := s1_ge x; rw [← Hsg1.out] at h; exact h.2 q2
    have q2H := Lib.hid q2
    clear q2
    have q2d : decide (0 ≤ sg1) = true := decide_eq_true q2_
    obtain ⟨sg4, Hsg4⟩ : ∃ s : Int, s = sgQ (x - 1) := ⟨_, rfl⟩
    replace Hsg4 := Lib.hid Hsg4
    refine U_region (S := fun w' => w'.cell? ⟨w.heap.size, 0, none⟩ = some (.bool shx) ∧ w'.cell? ⟨w.heap.size, 1, none⟩ = some (.slice ahx nhx chx) ∧ w'.cell? ⟨w.heap.size, 2, none⟩ = some (.slice Ahx Nhx Chx)) (by kernel_rfl) 10 ?_
    refine AnyU.abs ?_
    intro w2 hW
    have hb : Below w1.heap.size w1 w2 := by rw [hW]; exact bDrew _
    replace hs := bStep hs hb
    replace Blp := Blp.mono hb
    replace hx := hx.mono hb
    clear hb hW
    have cp_0 : w2.cell? ⟨w.heap.size, 0, none⟩ = some (.bool shx) := Blp.at 0 rfl
    have cp_1 : w2.cell? ⟨w.heap.size, 1, none⟩ = some (.slice ahx nhx chx) := Blp.at 1 rfl
    have cp_2 : w2.cell? ⟨w.heap.size, 2, none⟩ = some (.slice Ahx Nhx Chx) := Blp.at 2 rfl
    have hH := (show w2.cell? ⟨w.heap.size, 0, none⟩ = some (.bool shx) ∧ w2.cell? ⟨w.heap.size, 1, none⟩ = some (.slice ahx nhx chx) ∧ w2.cell? ⟨w.heap.size, 2, none⟩ = some (.slice Ahx Nhx Chx) from ⟨cp_0, cp_1, cp_2⟩)
    refine U_takeN (i := 0) (d := 3) (v := ?_) rfl rfl rfl (by kernel_rfl) (by kernel_rfl) (by kernel_rfl) (fun _ _ _ h => h) (Or.inl ⟨by rfl, ?_⟩) hH ?_
    rotate_left
    · intro w hSw
      try dsimp only at hSw
      go_simp
      try with_reducible rfl
    simp only [LY]
    clear hH
    refine U_one (i := 1) (by kernel_rfl) rfl (fun K hK => ?_)
    go_simp
    (with_reducible refine (rSign hx).mono ?_)
    rintro e w3 ⟨rfl, hb⟩
    replace hs := bStep hs hb
    replace Blp := Blp.mono hb
    replace hx := hx.mono hb
    replace cp_0 := cellK cp_0 hb
    replace cp_1 := cellK cp_1 hb
    replace cp_2 := cellK cp_2 hb
    clear hb
    rw [← Hsg1.out]
    try go_wp2_with fail
    refine hK.out _ _ ⟨cp_0, cp_1, cp_2⟩ (fun hH => ?_)
    clear hK K
    try simp only [LY]
    refine U_takeN (i := 2) (d := 5) (v := ?_) rfl rfl rfl (by kernel_rfl) (by kernel_rfl) (by kernel_rfl) (fun _ _ _ h => h) (Or.inl ⟨by rfl, ?_⟩) hH ?_
    rotate_left
    · intro w hSw
      try dsimp only at hSw
      go_simp
      try with_reducible rfl
    simp only [LY]
    refine U_takeN (i := 3) (d := 6) (v := ?_) rfl rfl rfl (by kernel_rfl) (by kernel_rfl) (by kernel_rfl) (fun _ _ _ h => h) (Or.inl ⟨by rfl, ?_⟩) hH ?_
    rotate_left
    · intro w hSw
      try dsimp only at hSw
      go_simp
      try with_reducible rfl
    simp only [LY]
    refine U_takeN (i := 4) (d := 7) (v := ?_) rfl rfl rfl (by kernel_rfl) (by kernel_rfl) (by kernel_rfl) (fun _ _ _ h => h) (Or.inl ⟨by rfl, ?_⟩) hH ?_
    rotate_left
    · intro w hSw
      try dsimp only at hSw
      go_simp
      try with_reducible rfl
    simp only [LY]
    clear hH
    refine U_one (i := 5) (by kernel_rfl) rfl (fun K hK => ?_)
    go_simp
    (with_reducible refine (r_one _).mono ?_)
    rintro e w4 ⟨_, rfl, h3, hb⟩
    obtain ⟨sh3, ah3, nh3, ch3, Ah3, Nh3, Ch3, rfl⟩ := h3.shape
    replace hs := bStep hs hb
    replace Blp := Blp.mono hb
    replace hx := hx.mono hb
    replace cp_0 := cellK cp_0 hb
    replace cp_1 := cellK cp_1 hb
    replace cp_2 := cellK cp_2 hb
    clear hb
    try go_wp2_with fail
    refine hK.out _ _ ⟨cp_0, cp_1, cp_2⟩ (fun hH => ?_)
    clear hK K
    try simp only [LY]
    clear hH
    refine U_one (i := 6) (by kernel_rfl) rfl (fun K hK => ?_)
    go_simp
    (with_reducible refine (rCmp hx h3 (SzQ.fit sx) (SzQ.fit szQ_one)).mono ?_)
    rintro e w5 ⟨rfl, hb⟩
    replace hs := bStep hs hb
    replace Blp := Blp.mono hb
    replace hx := hx.mono hb
    replace h3 := h3.mono hb
    replace cp_0 := cellK cp_0 hb
    replace cp_1 := cellK cp_1 hb
    replace cp_2 := cellK cp_2 hb
    clear hb
    rw [← Hsg4.out]
    try go_wp2_with fail
    refine hK.out _ _ ⟨cp_0, cp_1, cp_2⟩ (fun hH => ?_)
    clear hK K
    try simp only [LY]
    refine U_takeN (i := 7) (d := 10) (v := ?_) rfl rfl rfl (by kernel_rfl) (by kernel_rfl) (by kernel_rfl) (fun _ _ _ h => h) (Or.inl ⟨by rfl, ?_⟩) hH ?_
    rotate_left
    · intro w hSw
      try dsimp only at hSw
      go_simp
      try with_reducible rfl
    simp only [LY]
    refine U_takeN (i := 8) (d := 11) (v := ?_) rfl rfl rfl (by kernel_rfl) (by kernel_rfl) (by kernel_rfl) (fun _ _ _ h => h) (Or.inl ⟨by rfl, ?_⟩) hH ?_
    rotate_left
    · intro w hSw
      try dsimp only at hSw
      go_simp
      try with_reducible rfl
    simp only [LY]
    refine U_takeN (i := 9) (d := 2) (v := ?_) rfl rfl rfl (by kernel_rfl) (by kernel_rfl) (by kernel_rfl) (fun _ _ _ h => h) (Or.inl ⟨by rfl, ?_⟩) hH ?_
    rotate_left
    · intro w hSw
      try dsimp only at hSw
      go_simp
      try with_reducible rfl
    simp only [LY]
    clear hH
    refine U_endN (by kernel_rfl) ?_
    clear cp_0 cp_1 cp_2
    by_cases q5 : x ≤ 1
    · have q5_ : sg4 ≤ 0 := by have h := sq_le x 1; rw [← Hsg4.out] at h; exact h.2 q5
      have q5H := Lib.hid q5
      clear q5
      have q5d : decide (sg4 ≤ 0) = true := decide_eq_true q5_
      try simp only [q5d]
      go_wp2
      go_ret
      exact ⟨(by rw [HRB.out, decide_eq_true (show 0 ≤ x ∧ x ≤ 1 from by have p0 : 0 ≤ x := q2H.out; have p1 : x ≤ 1 := q5H.out; first | assumption | exact ⟨by assumption, by assumption⟩ | exact ⟨⟨by assumption, by assumption⟩, ⟨by assumption, by assumption⟩⟩)]; rfl), hs⟩
    · have q5_ : ¬ (sg4 ≤ 0) := by have h := sq_le x 1; rw [← Hsg4.out] at h; exact fun h1 => q5 (h.1 h1)
      have q5H := Lib.hid q5
      clear q5
      have q5d : decide (sg4 ≤ 0) = false := decide_eq_false q5_
      try simp only [q5d]
      go_wp2
      go_ret
      exact ⟨(by rw [HRB.out, decide_eq_false (show ¬ (0 ≤ x ∧ x ≤ 1) from by have p0 : 0 ≤ x := q2H.out; have p1 : ¬ (x ≤ 1) := q5H.out; first | assumption | exact fun h => absurd h.1 (by assumption) | exact fun h => absurd h.2 (by assumption))]; rfl), hs⟩
  · have q2_ : ¬ (0 ≤ sg1) := by have h := s1_ge x; rw [← Hsg1.out] at h; exact fun h1 => q2 (h.1 h1)
    have q2H := Lib.hid q2
    clear q2
    have q2d : decide (0 ≤ sg1) = false := decide_eq_false q2_
    refine U_region (S := fun w' => w'.cell? ⟨w.heap.size, 0, none⟩ = some (.bool shx) ∧ w'.cell? ⟨w.heap.size, 1, none⟩ = some (.slice ahx nhx chx) ∧ w'.cell? ⟨w.heap.size, 2, none⟩ = some (.slice Ahx Nhx Chx)) (by kernel_rfl) 10 ?_
    refine AnyU.abs ?_
    intro w2 hW
    have hb : Below w1.heap.size w1 w2 := by rw [hW]; exact bDrew _
    replace hs := bStep hs hb
    replace Blp := Blp.mono hb
    replace hx := hx.mono hb
    clear hb hW
    have cp_0 : w2.cell? ⟨w.heap.size, 0, none⟩ = some (.bool shx) := Blp.at 0 rfl
    have cp_1 : w2.cell? ⟨w.heap.size, 1, none⟩ = some (.slice ahx nhx chx) := Blp.at 1 rfl
    have cp_2 : w2.cell? ⟨w.heap.size, 2, none⟩ = some (.slice Ahx Nhx Chx) := Blp.at 2 rfl
    have hH := (show w2.cell? ⟨w.heap.size, 0, none⟩ = some (.bool shx) ∧ w2.cell? ⟨w.heap.size, 1, none⟩ = some (.slice ahx nhx chx) ∧ w2.cell? ⟨w.heap.size, 2, none⟩ = some (.slice Ahx Nhx Chx) from ⟨cp_0, cp_1, cp_2⟩)
    refine U_takeN (i := 0) (d := 3) (v := ?_) rfl rfl rfl (by kernel_rfl) (by kernel_rfl) (by kernel_rfl) (fun _ _ _ h => h) (Or.inl ⟨by rfl, ?_⟩) hH ?_
    rotate_left
    · intro w hSw
      try dsimp only at hSw
      go_simp
      try with_reducible rfl
    simp only [LY]
    clear hH
    refine U_one (i := 1) (by kernel_rfl) rfl (fun K hK => ?_)
    go_simp
    (with_reducible refine (rSign hx).mono ?_)
    rintro e w3 ⟨rfl, hb⟩
    replace hs := bStep hs hb
    replace Blp := Blp.mono hb
    replace hx := hx.mono hb
    replace cp_0 := cellK cp_0 hb
    replace cp_1 := cellK cp_1 hb
    replace cp_2 := cellK cp_2 hb
    clear hb
    rw [← Hsg1.out]
    try go_wp2_with fail
    refine hK.out _ _ ⟨cp_0, cp_1, cp_2⟩ (fun hH => ?_)
    clear hK K
    try simp only [LY]
    refine U_takeN (i := 2) (d := 5) (v := ?_) rfl rfl rfl (by kernel_rfl) (by kernel_rfl) (by kernel_rfl) (fun _ _ _ h => h) (Or.inl ⟨by rfl, ?_⟩) hH ?_
    rotate_left
    · intro w hSw
      try dsimp only at hSw
      go_simp
      try with_reducible rfl
    simp only [LY]
    refine U_takeN (i := 3) (d := 6) (v := ?_) rfl rfl rfl (by kernel_rfl) (by kernel_rfl) (by kernel_rfl) (fun _ _ _ h => h) (Or.inl ⟨by rfl, ?_⟩) hH ?_
    rotate_left
    · intro w hSw
      try dsimp only at hSw
      go_simp
      try with_reducible rfl
    simp only [LY]
    refine U_takeN (i := 4) (d := 7) (v := undef) rfl rfl rfl (by kernel_rfl) (by kernel_rfl) (by kernel_rfl) (fun _ _ _ h => h) (Or.inr ⟨by rfl, rfl⟩) hH ?_
    simp only [LY]
    clear hH
    refine U_one (i := 5) (by kernel_rfl) rfl (fun K hK => ?_)
    go_simp
    refine hK.out _ _ ⟨cp_0, cp_1, cp_2⟩ (fun hH => ?_)
    clear hK K
    try simp only [LY]
    clear hH
    refine U_one (i := 6) (by kernel_rfl) rfl (fun K hK => ?_)
    go_simp
    refine hK.out _ _ ⟨cp_0, cp_1, cp_2⟩ (fun hH => ?_)
    clear hK K
    try simp only [LY]
    refine U_takeN (i := 7) (d := 10) (v := undef) rfl rfl rfl (by kernel_rfl) (by kernel_rfl) (by kernel_rfl) (fun _ _ _ h => h) (Or.inr ⟨by rfl, rfl⟩) hH ?_
    simp only [LY]
    refine U_takeN (i := 8) (d := 11) (v := ?_) rfl rfl rfl (by kernel_rfl) (by kernel_rfl) (by kernel_rfl) (fun _ _ _ h => h) (Or.inl ⟨by rfl, ?_⟩) hH ?_
    rotate_left
    · intro w hSw
      try dsimp only at hSw
      go_simp
      try with_reducible rfl
    simp only [LY]
    refine U_takeN (i := 9) (d := 2) (v := ?_) rfl rfl rfl (by kernel_rfl) (by kernel_rfl) (by kernel_rfl) (fun _ _ _ h => h) (Or.inl ⟨by rfl, ?_⟩) hH ?_
    rotate_left
    · intro w hSw
      try dsimp only at hSw
      go_simp
      try with_reducible rfl
    simp only [LY]
    clear hH
    refine U_endN (by kernel_rfl) ?_
    clear cp_0 cp_1 cp_2
    go_wp2
    go_ret
    exact ⟨(by rw [HRB.out, decide_eq_false (show ¬ (0 ≤ x ∧ x ≤ 1) from by have p0 : ¬ (0 ≤ x) := q2H.out; first | assumption | exact fun h => absurd h.1 (by assumption) | exact fun h => absurd h.2 (by assumption))]; rfl), hs⟩

set_option maxRecDepth 100000 in
set_option maxHeartbeats 16000000 in
theorem r8_event {v v' : Value} {p : Rat} {n : Nat} (w : World) (hl : Rows 3 36 RC w v (binL p n)) (hp : RV w v' p) (sp : SzQ 1 p) (h0 : 0 ≤ p) (h1 : p ≤ 1) (hn : n ≤ 64) :
    Calls Tryz.prog 77 #[v, v'] w (Ret1 (fun w v => Rows 3 36 RC w v (binL p (n + 1))) w) := by
  obtain ⟨bhl, ohl, khl, rfl, hl1, hl2, -⟩ := hl.open_ (by rw [binL_len]; omega)
  obtain ⟨shp, ahp, nhp, chp, Ahp, Nhp, Chp, rfl⟩ := hp.shape
  have hs := Below.refl w.heap.size w
  have kl1 : (binL p n).length ≤ n + 1 := Nat.le_of_eq (binL_len p n)
  have kl2 : n + 1 ≤ (binL p n).length := Nat.le_of_eq (binL_len p n).symm
  have HBZ := Lib.hid (fun m (hm : m ≤ 64) => binL_mid h0 h1 sp hm)
  have HCZ := Lib.hid (fun k => evC_sz h0 h1 sp hn k)
  obtain ⟨i0, hi, hz0, hz1, hz2⟩ := info_parts rR_info
  clear h0 h1
  go_enter Tryz.func77, Tryz.ntmps77
  go_wp2_with (at_make; refine wpList.stop ?_)
  refine ⟨?_⟩
  refine wpList.abs ?_
  intro w1 hW
  have hG : Gr [] w w1 := by rw [hW]; exact (Gr.refl _ _).alloc
  have hbw : Below w.heap.size w w1 := hG.below0 hs.size
  have hk : KeepD w w1 := hG.keep True.intro
  have sz_w1 : w.heap.size ≤ w.heap.size := hs.size
  have nhl_w1 : bhl < w.heap.size := hl.lt (by omega)
  have Blp : Bx w1 (w.heap.size) 36 #[.bool shp, .slice ahp nhp chp, .slice Ahp Nhp Chp] := by rw [hW]; exact (Bx.new0 _ _ _)
  replace hs := hs.trans hbw
  replace hl := rowsJ RC.kept _ _ _ hl (hG.below0 (Nat.le_refl _))
  replace hp := hp.keep hk
  clear hW hG hk hbw
  have hz_w1 : w.heap.size < w1.heap.size := Blp.lt
  refine wpList_make_full _ rfl _ _ _ rfl w.heap.size 36 i0 _ 3 Tryz.underlying47 hi hz0 hz1 _ _ _ _ (((binL p n).length + 1)) rfl rfl (by omega) (by omega) (by rw [hz2]; omega) (by unfold maxLen; omega) hs.size ?_
  intro w2 hown hgrow
  have hb : Below w1.heap.size w1 w2 := (Below.refl _ _).grown hgrow (Nat.le_refl _) (fun k hk => by cases hk)
  have hv_nx : w.heap.size ≤ w1.heap.size := hs.size
  have np_w2 : w.heap.size < w1.heap.size := Blp.lt
  have nhl_w2 : bhl < w1.heap.size := hl.lt (by omega)
  replace hs := bStep hs hb
  replace Blp := Blp.mono hb
  replace hp := hp.mono hb
  replace hl := rowsJ RC.kept _ _ _ hl hb
  clear hb
  have Vnx : VecR 36 3 RC w2 (w1.heap.size) (evL p n 0) := by rw [evL_zero]; exact VecR.made hown (by omega) ⟨_, _, _, rfl, RV.zero _⟩
  clear hown hgrow
  have Lv_nx : w1.heap.size < w2.heap.size := Vnx.lt
  go_wp2
  go_loopw [6] (fun s6 wq => ∃ k : Nat, k ≤ (binL p n).length ∧ s6 = .int .i64 k ∧ Below w.heap.size w wq ∧ Bx wq (w.heap.size) 36 #[.bool shp, .slice ahp nhp chp, .slice Ahp Nhp Chp] ∧ RV wq (.agg #[.bool shp, .slice ahp nhp chp, .slice Ahp Nhp Chp]) (p) ∧ Rows 3 36 RC wq (.slice (some ⟨bhl, ohl, none⟩) (binL p n).length khl) ((binL p n)) ∧ (VecR 36 3 RC wq (w1.heap.size) (evL p n k))) (fun s6 _ => (binL p n).length - (intOf s6).toNat)
  case atStart => exact ⟨0, Nat.zero_le _, rfl, hs, Blp, hp, hl, Vnx⟩
  case round =>
    clear Blp hp hl hs
    obtain ⟨k, k_le, rfl, hs, Blp, hp, hl, Vnx⟩ := hrel
    replace Vnx := Lib.hid Vnx
    replace Vnx := Vnx.out
    have kl : (binL p n).length = n + 1 := binL_len p n
    have kl1 : (binL p n).length ≤ n + 1 := Nat.le_of_eq kl
    have kl2 : n + 1 ≤ (binL p n).length := Nat.le_of_eq kl.symm
    clear kl
    by_cases q1 : k < (binL p n).length
    · have q1d : ((k : Int) < ((binL p n).length : Int)) = True := eq_true (by omega)
      go_upto_region 5 with fail
      have BI2a : k < ((binL p n).length + 1) := by omega
      have BI2b : ((k : Int) : Int) < (((binL p n).length + 1) : Int) := by omega
      obtain ⟨ge3, ae3, ne3, ce3, Ae3, Ne3, De3, Ee30, Ee31, Ee32, he3, le3⟩ := vecR_at Vnx (show k < (evL p n k).length by (first | (rw [evL_len]; omega) | (rw [evM_len]; omega)))
      rw [evL_at (by omega)] at he3
      have BI4a : k < (binL p n).length := by omega
      have BI4b : ((k : Int) : Int) < ((binL p n).length : Int) := by omega
      obtain ⟨ge5a, ae5a, ne5a, ce5a, Ae5a, Ne5a, De5a, Ee50, Ee51, Ee52, he5a, le5⟩ := rowR_at hl (show k < (binL p n).length by omega)
      refine U_region (S := fun w' => w'.cell? ⟨w.heap.size, 0, none⟩ = some (.bool shp) ∧ w'.cell? ⟨w.heap.size, 1, none⟩ = some (.slice ahp nhp chp) ∧ w'.cell? ⟨w.heap.size, 2, none⟩ = some (.slice Ahp Nhp Chp) ∧ w'.cell? ⟨w1.heap.size, k * 3, none⟩ = some (.bool ge3) ∧ w'.cell? ⟨w1.heap.size, k * 3 + 1, none⟩ = some (.slice ae3 ne3 ce3) ∧ w'.cell? ⟨w1.heap.size, k * 3 + 2, none⟩ = some (.slice Ae3 Ne3 De3) ∧ w'.cell? ⟨bhl, ohl + k * 3, none⟩ = some (.bool ge5a) ∧ w'.cell? ⟨bhl, ohl + k * 3 + 1, none⟩ = some (.slice ae5a ne5a ce5a) ∧ w'.cell? ⟨bhl, ohl + k * 3 + 2, none⟩ = some (.slice Ae5a Ne5a De5a)) (by kernel_rfl) 15 ?_
      refine AnyU.abs ?_
      intro w23 hW
      have hb : Below wr.heap.size wr w23 := by rw [hW]; exact bDrew _
      replace hs := bStep hs hb
      replace Blp := Blp.mono hb
      replace hp := hp.mono hb
      replace he3 := he3.mono hb
      replace he5a := he5a.mono hb
      replace hl := rowsJ RC.kept _ _ _ hl hb
      replace Vnx := VecR.mono RC.kept Vnx hb
      replace Ee30 := cellK Ee30 hb
      replace Ee31 := cellK Ee31 hb
      replace Ee32 := cellK Ee32 hb
      replace Ee50 := cellK Ee50 hb
      replace Ee51 := cellK Ee51 hb
      replace Ee52 := cellK Ee52 hb
      clear hb hW
      have cp_0 : w23.cell? ⟨w.heap.size, 0, none⟩ = some (.bool shp) := Blp.at 0 rfl
      have cp_1 : w23.cell? ⟨w.heap.size, 1, none⟩ = some (.slice ahp nhp chp) := Blp.at 1 rfl
      have cp_2 : w23.cell? ⟨w.heap.size, 2, none⟩ = some (.slice Ahp Nhp Chp) := Blp.at 2 rfl
      have hH := (show w23.cell? ⟨w.heap.size, 0, none⟩ = some (.bool shp) ∧ w23.cell? ⟨w.heap.size, 1, none⟩ = some (.slice ahp nhp chp) ∧ w23.cell? ⟨w.heap.size, 2, none⟩ = some (.slice Ahp Nhp Chp) ∧ w23.cell? ⟨w1.heap.size, k * 3, none⟩ = some (.bool ge3) ∧ w23.cell? ⟨w1.heap.size, k * 3 + 1, none⟩ = some (.slice ae3 ne3 ce3) ∧ w23.cell? ⟨w1.heap.size, k * 3 + 2, none⟩ = some (.slice Ae3 Ne3 De3) ∧ w23.cell? ⟨bhl, ohl + k * 3, none⟩ = some (.bool ge5a) ∧ w23.cell? ⟨bhl, ohl + k * 3 + 1, none⟩ = some (.slice ae5a ne5a ce5a) ∧ w23.cell? ⟨bhl, ohl + k * 3 + 2, none⟩ = some (.slice Ae5a Ne5a De5a) from ⟨cp_0, cp_1, cp_2, Ee30, Ee31, Ee32, Ee50, Ee51, Ee52⟩)
      refine U_take (i := 0) (v := ?_) rfl (by kernel_rfl) (by kernel_rfl) (by kernel_rfl) (by kernel_rfl) (fun _ _ _ h => h) (Or.inl ⟨by rfl, ?_⟩) hH ?_
      rotate_left
      · intro w hSw
        try dsimp only at hSw
        go_simp
        try with_reducible rfl
      try simp only [Act.put, List.setIfInBounds_toArray, List.set_cons_zero, List.set_cons_succ]
      refine U_take (i := 1) (v := ?_) rfl (by kernel_rfl) (by kernel_rfl) (by kernel_rfl) (by kernel_rfl) (fun _ _ _ h => h) (Or.inl ⟨by rfl, ?_⟩) hH ?_
      rotate_left
      · intro w hSw
        try dsimp only at hSw
        go_simp
        try with_reducible rfl
      try simp only [Act.put, List.setIfInBounds_toArray, List.set_cons_zero, List.set_cons_succ]
      refine U_take (i := 2) (v := ?_) rfl (by kernel_rfl) (by kernel_rfl) (by kernel_rfl) (by kernel_rfl) (fun _ _ _ h => h) (Or.inl ⟨by rfl, ?_⟩) hH ?_
      rotate_left
      · intro w hSw
        try dsimp only at hSw
        go_simp
        try with_reducible rfl
      try simp only [Act.put, List.setIfInBounds_toArray, List.set_cons_zero, List.set_cons_succ]
      refine U_take (i := 3) (v := ?_) rfl (by kernel_rfl) (by kernel_rfl) (by kernel_rfl) (by kernel_rfl) (fun _ _ _ h => h) (Or.inl ⟨by rfl, ?_⟩) hH ?_
      rotate_left
      · intro w hSw
        try dsimp only at hSw
        go_simp
        try with_reducible rfl
      try simp only [Act.put, List.setIfInBounds_toArray, List.set_cons_zero, List.set_cons_succ]
      refine U_take (i := 4) (v := ?_) rfl (by kernel_rfl) (by kernel_rfl) (by kernel_rfl) (by kernel_rfl) (fun _ _ _ h => h) (Or.inl ⟨by rfl, ?_⟩) hH ?_
      rotate_left
      · intro w hSw
        try dsimp only at hSw
        go_simp
        try with_reducible rfl
      try simp only [Act.put, List.setIfInBounds_toArray, List.set_cons_zero, List.set_cons_succ]
      refine U_take (i := 5) (v := ?_) rfl (by kernel_rfl) (by kernel_rfl) (by kernel_rfl) (by kernel_rfl) (fun _ _ _ h => h) (Or.inl ⟨by rfl, ?_⟩) hH ?_
      rotate_left
      · intro w hSw
        try dsimp only at hSw
        go_simp
        try with_reducible rfl
      try simp only [Act.put, List.setIfInBounds_toArray, List.set_cons_zero, List.set_cons_succ]
      refine U_take (i := 6) (v := ?_) rfl (by kernel_rfl) (by kernel_rfl) (by kernel_rfl) (by kernel_rfl) (fun _ _ _ h => h) (Or.inl ⟨by rfl, ?_⟩) hH ?_
      rotate_left
      · intro w hSw
        try dsimp only at hSw
        go_simp
        try with_reducible rfl
      try simp only [Act.put, List.setIfInBounds_toArray, List.set_cons_zero, List.set_cons_succ]
      refine U_take (i := 7) (v := ?_) rfl (by kernel_rfl) (by kernel_rfl) (by kernel_rfl) (by kernel_rfl) (fun _ _ _ h => h) (Or.inl ⟨by rfl, ?_⟩) hH ?_
      rotate_left
      · intro w hSw
        try dsimp only at hSw
        go_simp
        try with_reducible rfl
      try simp only [Act.put, List.setIfInBounds_toArray, List.set_cons_zero, List.set_cons_succ]
      refine U_take (i := 8) (v := ?_) rfl (by kernel_rfl) (by kernel_rfl) (by kernel_rfl) (by kernel_rfl) (fun _ _ _ h => h) (Or.inl ⟨by rfl, ?_⟩) hH ?_
      rotate_left
      · intro w hSw
        try dsimp only at hSw
        go_simp
        try with_reducible rfl
      try simp only [Act.put, List.setIfInBounds_toArray, List.set_cons_zero, List.set_cons_succ]
      refine U_take (i := 9) (v := ?_) rfl (by kernel_rfl) (by kernel_rfl) (by kernel_rfl) (by kernel_rfl) (fun _ _ _ h => h) (Or.inl ⟨by rfl, ?_⟩) hH ?_
      rotate_left
      · intro w hSw
        try dsimp only at hSw
        go_simp
        try with_reducible rfl
      try simp only [Act.put, List.setIfInBounds_toArray, List.set_cons_zero, List.set_cons_succ]
      refine U_take (i := 10) (v := ?_) rfl (by kernel_rfl) (by kernel_rfl) (by kernel_rfl) (by kernel_rfl) (fun _ _ _ h => h) (Or.inl ⟨by rfl, ?_⟩) hH ?_
      rotate_left
      · intro w hSw
        try dsimp only at hSw
        go_simp
        try with_reducible rfl
      try simp only [Act.put, List.setIfInBounds_toArray, List.set_cons_zero, List.set_cons_succ]
      clear hH
      refine U_one (i := 11) (by kernel_rfl) rfl (fun K hK => ?_)
      go_simp
      (with_reducible refine (r8_rest _ _ _ hp (SzQ.mid sp)).mono ?_)
      rintro e w24 ⟨_, rfl, h6, hb⟩
      obtain ⟨sh6, ah6, nh6, ch6, Ah6, Nh6, Ch6, rfl⟩ := h6.shape
      replace hs := bStep hs hb
      replace Blp := Blp.mono hb
      replace hp := hp.mono hb
      replace he3 := he3.mono hb
      replace he5a := he5a.mono hb
      replace hl := rowsJ RC.kept _ _ _ hl hb
      replace Vnx := VecR.mono RC.kept Vnx hb
      replace cp_0 := cellK cp_0 hb
      replace cp_1 := cellK cp_1 hb
      replace cp_2 := cellK cp_2 hb
      replace Ee30 := cellK Ee30 hb
      replace Ee31 := cellK Ee31 hb
      replace Ee32 := cellK Ee32 hb
      replace Ee50 := cellK Ee50 hb
      replace Ee51 := cellK Ee51 hb
      replace Ee52 := cellK Ee52 hb
      clear hb
      try go_wp2_with fail
      refine hK.out _ _ ⟨cp_0, cp_1, cp_2, Ee30, Ee31, Ee32, Ee50, Ee51, Ee52⟩ (fun hH => ?_)
      clear hK K
      try simp only [Act.put, List.setIfInBounds_toArray, List.set_cons_zero, List.set_cons_succ]
      clear hH
      refine U_one (i := 12) (by kernel_rfl) rfl (fun K hK => ?_)
      go_simp
      (with_reducible refine (rMul he5a h6 (SzQ.fit (HBZ.out n hn k (by omega))) (SzQ.fit (SzQ.sub szQ_one sp))).mono ?_)
      rintro e w25 ⟨_, rfl, h7, hb⟩
      obtain ⟨sh7, ah7, nh7, ch7, Ah7, Nh7, Ch7, rfl⟩ := h7.shape
      replace hs := bStep hs hb
      replace Blp := Blp.mono hb
      replace hp := hp.mono hb
      replace he3 := he3.mono hb
      replace he5a := he5a.mono hb
      replace h6 := h6.mono hb
      replace hl := rowsJ RC.kept _ _ _ hl hb
      replace Vnx := VecR.mono RC.kept Vnx hb
      replace cp_0 := cellK cp_0 hb
      replace cp_1 := cellK cp_1 hb
      replace cp_2 := cellK cp_2 hb
      replace Ee30 := cellK Ee30 hb
      replace Ee31 := cellK Ee31 hb
      replace Ee32 := cellK Ee32 hb
      replace Ee50 := cellK Ee50 hb
      replace Ee51 := cellK Ee51 hb
      replace Ee52 := cellK Ee52 hb
      clear hb
      try go_wp2_with fail
      refine hK.out _ _ ⟨cp_0, cp_1, cp_2, Ee30, Ee31, Ee32, Ee50, Ee51, Ee52⟩ (fun hH => ?_)
      clear hK K
      try simp only [Act.put, List.setIfInBounds_toArray, List.set_cons_zero, List.set_cons_succ]
      clear hH
      refine U_one (i := 13) (by kernel_rfl) rfl (fun K hK => ?_)
      go_simp
      (with_reducible refine (rAdd he3 h7 (SzQ.fit (HCZ.out k)) (SzQ.fit (SzQ.mul (HBZ.out n hn k (by omega)) (SzQ.sub szQ_one sp)))).mono ?_)
      rintro e w26 ⟨_, rfl, h8, hb⟩
      obtain ⟨sh8, ah8, nh8, ch8, Ah8, Nh8, Ch8, rfl⟩ := h8.shape
      replace hs := bStep hs hb
      replace Blp := Blp.mono hb
      replace hp := hp.mono hb
      replace he3 := he3.mono hb
      replace he5a := he5a.mono hb
      replace h6 := h6.mono hb
      replace h7 := h7.mono hb
      replace hl := rowsJ RC.kept _ _ _ hl hb
      replace Vnx := VecR.mono RC.kept Vnx hb
      replace cp_0 := cellK cp_0 hb
      replace cp_1 := cellK cp_1 hb
      replace cp_2 := cellK cp_2 hb
      replace Ee30 := cellK Ee30 hb
      replace Ee31 := cellK Ee31 hb
      replace Ee32 := cellK Ee32 hb
      replace Ee50 := cellK Ee50 hb
      replace Ee51 := cellK Ee51 hb
      replace Ee52 := cellK Ee52 hb
      clear hb
      try go_wp2_with fail
      refine hK.out _ _ ⟨cp_0, cp_1, cp_2, Ee30, Ee31, Ee32, Ee50, Ee51, Ee52⟩ (fun hH => ?_)
      clear hK K
      try simp only [Act.put, List.setIfInBounds_toArray, List.set_cons_zero, List.set_cons_succ]
      refine U_take (i := 14) (v := ?_) rfl (by kernel_rfl) (by kernel_rfl) (by kernel_rfl) (by kernel_rfl) (fun _ _ _ h => h) (Or.inl ⟨by rfl, ?_⟩) hH ?_
      rotate_left
      · intro w hSw
        try dsimp only at hSw
        go_simp
        try with_reducible rfl
      try simp only [Act.put, List.setIfInBounds_toArray, List.set_cons_zero, List.set_cons_succ]
      clear hH
      have fVnx := Vnx.free
      have LVnx : w1.heap.size < w26.heap.size := Vnx.lt
      refine U_last (by kernel_rfl) rfl (by kernel_rfl) (fun K hK => ?_)
      go_simp
      refine hK.out _ _ ?_
      clear hK K
      intro w27 hW
      have hG : Gr [w1.heap.size] w26 w27 := by rw [hW]; exact (Gr.refl _ _).set.set.set
      have hsz := hs.size
      have hbw : Below w.heap.size w26 w27 := hG.below1 hs.size (by first | omega | assumption)
      have hk : KeepD w26 w27 := hG.keep ⟨⟨_, Vnx.ty, by decide⟩, True.intro⟩
      have V1nx : VecR 36 3 RC w27 (w1.heap.size) ((evL p n k).set k (evC p n k + ((nthQ (binL p n) k) * (1 - p)))) := by rw [hW]; exact (Vnx.put3 RC.kept (show k < (evL p n k).length by (first | (rw [evL_len]; omega) | (rw [evM_len]; omega))) (by decide) ⟨_, _, _, rfl, h8⟩ ((Gr.refl _ _)))
      rw [evL_set (by omega)] at V1nx
      replace hs := hs.trans hbw
      replace hl := hl.gr RC.kept hG (notMem1 (by omega)) hk
      replace Blp := hG.bx Blp (notMem1 (by omega))
      replace Vnx := V1nx
      clear V1nx
      replace hp := hp.keep hk
      replace he3 := he3.keep hk
      replace he5a := he5a.keep hk
      replace h6 := h6.keep hk
      replace h7 := h7.keep hk
      replace h8 := h8.keep hk
      clear hW hG hk hbw hsz
      try simp only [Act.put, List.setIfInBounds_toArray, List.set_cons_zero, List.set_cons_succ]
      clear cp_0 cp_1 cp_2 Ee30 Ee31 Ee32 Ee50 Ee51 Ee52
      go_upto_region 6 with fail
      have SW9a := IntWalk.i64_in ((k : Int) + 1) (by omega)
      have SW9b : (0 : Int) ≤ (k : Int) + 1 := by omega
      have SW9c : ((k : Int) + 1).toNat = (k + 1) := by omega
      have SW9d : (k : Int) + 1 < (((binL p n).length + 1) : Int) := by omega
      have BI10a : (k + 1) < ((binL p n).length + 1) := by omega
      have BI10b : ((k : Int) + 1 : Int) < (((binL p n).length + 1) : Int) := by omega
      obtain ⟨ge11, ae11, ne11, ce11, Ae11, Ne11, De11, Ee110, Ee111, Ee112, he11, le11⟩ := vecR_at Vnx (show (k + 1) < (evM p n k).length by (first | (rw [evL_len]; omega) | (rw [evM_len]; omega)))
      rw [evM_at (by omega)] at he11
      have BI12a : k < (binL p n).length := by omega
      have BI12b : ((k : Int) : Int) < ((binL p n).length : Int) := by omega
      obtain ⟨ge13a, ae13a, ne13a, ce13a, Ae13a, Ne13a, De13a, Ee130, Ee131, Ee132, he13a, le13⟩ := rowR_at hl (show k < (binL p n).length by omega)
      refine U_region (S := fun w' => w'.cell? ⟨w.heap.size, 0, none⟩ = some (.bool shp) ∧ w'.cell? ⟨w.heap.size, 1, none⟩ = some (.slice ahp nhp chp) ∧ w'.cell? ⟨w.heap.size, 2, none⟩ = some (.slice Ahp Nhp Chp) ∧ w'.cell? ⟨w1.heap.size, (k + 1) * 3, none⟩ = some (.bool ge11) ∧ w'.cell? ⟨w1.heap.size, (k + 1) * 3 + 1, none⟩ = some (.slice ae11 ne11 ce11) ∧ w'.cell? ⟨w1.heap.size, (k + 1) * 3 + 2, none⟩ = some (.slice Ae11 Ne11 De11) ∧ w'.cell? ⟨bhl, ohl + k * 3, none⟩ = some (.bool ge13a) ∧ w'.cell? ⟨bhl, ohl + k * 3 + 1, none⟩ = some (.slice ae13a ne13a ce13a) ∧ w'.cell? ⟨bhl, ohl + k * 3 + 2, none⟩ = some (.slice Ae13a Ne13a De13a)) (by kernel_rfl) 16 ?_
      refine AnyU.abs ?_
      intro w28 hW
      have hb : Below w27.heap.size w27 w28 := by rw [hW]; exact bDrew _
      replace hs := bStep hs hb
      replace Blp := Blp.mono hb
      replace hp := hp.mono hb
      replace he3 := he3.mono hb
      replace he5a := he5a.mono hb
      replace h6 := h6.mono hb
      replace h7 := h7.mono hb
      replace h8 := h8.mono hb
      replace he11 := he11.mono hb
      replace he13a := he13a.mono hb
      replace hl := rowsJ RC.kept _ _ _ hl hb
      replace Vnx := VecR.mono RC.kept Vnx hb
      replace Ee110 := cellK Ee110 hb
      replace Ee111 := cellK Ee111 hb
      replace Ee112 := cellK Ee112 hb
      replace Ee130 := cellK Ee130 hb
      replace Ee131 := cellK Ee131 hb
      replace Ee132 := cellK Ee132 hb
      clear hb hW
      have cp_0 : w28.cell? ⟨w.heap.size, 0, none⟩ = some (.bool shp) := Blp.at 0 rfl
      have cp_1 : w28.cell? ⟨w.heap.size, 1, none⟩ = some (.slice ahp nhp chp) := Blp.at 1 rfl
      have cp_2 : w28.cell? ⟨w.heap.size, 2, none⟩ = some (.slice Ahp Nhp Chp) := Blp.at 2 rfl
      have hH := (show w28.cell? ⟨w.heap.size, 0, none⟩ = some (.bool shp) ∧ w28.cell? ⟨w.heap.size, 1, none⟩ = some (.slice ahp nhp chp) ∧ w28.cell? ⟨w.heap.size, 2, none⟩ = some (.slice Ahp Nhp Chp) ∧ w28.cell? ⟨w1.heap.size, (k + 1) * 3, none⟩ = some (.bool ge11) ∧ w28.cell? ⟨w1.heap.size, (k + 1) * 3 + 1, none⟩ = some (.slice ae11 ne11 ce11) ∧ w28.cell? ⟨w1.heap.size, (k + 1) * 3 + 2, none⟩ = some (.slice Ae11 Ne11 De11) ∧ w28.cell? ⟨bhl, ohl + k * 3, none⟩ = some (.bool ge13a) ∧ w28.cell? ⟨bhl, ohl + k * 3 + 1, none⟩ = some (.slice ae13a ne13a ce13a) ∧ w28.cell? ⟨bhl, ohl + k * 3 + 2, none⟩ = some (.slice Ae13a Ne13a De13a) from ⟨cp_0, cp_1, cp_2, Ee110, Ee111, Ee112, Ee130, Ee131, Ee132⟩)
      refine U_take (i := 0) (v := ?_) rfl (by kernel_rfl) (by kernel_rfl) (by kernel_rfl) (by kernel_rfl) (fun _ _ _ h => h) (Or.inl ⟨by rfl, ?_⟩) hH ?_
      rotate_left
      · intro w hSw
        try dsimp only at hSw
        go_simp
        try with_reducible rfl
      try simp only [Act.put, List.setIfInBounds_toArray, List.set_cons_zero, List.set_cons_succ]
      refine U_take (i := 1) (v := ?_) rfl (by kernel_rfl) (by kernel_rfl) (by kernel_rfl) (by kernel_rfl) (fun _ _ _ h => h) (Or.inl ⟨by rfl, ?_⟩) hH ?_
      rotate_left
      · intro w hSw
        try dsimp only at hSw
        go_simp
        try with_reducible rfl
      try simp only [Act.put, List.setIfInBounds_toArray, List.set_cons_zero, List.set_cons_succ]
      refine U_take (i := 2) (v := ?_) rfl (by kernel_rfl) (by kernel_rfl) (by kernel_rfl) (by kernel_rfl) (fun _ _ _ h => h) (Or.inl ⟨by rfl, ?_⟩) hH ?_
      rotate_left
      · intro w hSw
        try dsimp only at hSw
        go_simp
        try with_reducible rfl
      try simp only [Act.put, List.setIfInBounds_toArray, List.set_cons_zero, List.set_cons_succ]
      refine U_take (i := 3) (v := ?_) rfl (by kernel_rfl) (by kernel_rfl) (by kernel_rfl) (by kernel_rfl) (fun _ _ _ h => h) (Or.inl ⟨by rfl, ?_⟩) hH ?_
      rotate_left
      · intro w hSw
        try dsimp only at hSw
        go_simp
        try with_reducible rfl
      try simp only [Act.put, List.setIfInBounds_toArray, List.set_cons_zero, List.set_cons_succ]
      refine U_take (i := 4) (v := ?_) rfl (by kernel_rfl) (by kernel_rfl) (by kernel_rfl) (by kernel_rfl) (fun _ _ _ h => h) (Or.inl ⟨by rfl, ?_⟩) hH ?_
      rotate_left
      · intro w hSw
        try dsimp only at hSw
        go_simp
        try with_reducible rfl
      try simp only [Act.put, List.setIfInBounds_toArray, List.set_cons_zero, List.set_cons_succ]
      refine U_take (i := 5) (v := ?_) rfl (by kernel_rfl) (by kernel_rfl) (by kernel_rfl) (by kernel_rfl) (fun _ _ _ h => h) (Or.inl ⟨by rfl, ?_⟩) hH ?_
      rotate_left
      · intro w hSw
        try dsimp only at hSw
        go_simp
        try with_reducible rfl
      try simp only [Act.put, List.setIfInBounds_toArray, List.set_cons_zero, List.set_cons_succ]
      refine U_take (i := 6) (v := ?_) rfl (by kernel_rfl) (by kernel_rfl) (by kernel_rfl) (by kernel_rfl) (fun _ _ _ h => h) (Or.inl ⟨by rfl, ?_⟩) hH ?_
      rotate_left
      · intro w hSw
        try dsimp only at hSw
        go_simp
        try with_reducible rfl
      try simp only [Act.put, List.setIfInBounds_toArray, List.set_cons_zero, List.set_cons_succ]
      refine U_take (i := 7) (v := ?_) rfl (by kernel_rfl) (by kernel_rfl) (by kernel_rfl) (by kernel_rfl) (fun _ _ _ h => h) (Or.inl ⟨by rfl, ?_⟩) hH ?_
      rotate_left
      · intro w hSw
        try dsimp only at hSw
        go_simp
        try with_reducible rfl
      try simp only [Act.put, List.setIfInBounds_toArray, List.set_cons_zero, List.set_cons_succ]
      refine U_take (i := 8) (v := ?_) rfl (by kernel_rfl) (by kernel_rfl) (by kernel_rfl) (by kernel_rfl) (fun _ _ _ h => h) (Or.inl ⟨by rfl, ?_⟩) hH ?_
      rotate_left
      · intro w hSw
        try dsimp only at hSw
        go_simp
        try with_reducible rfl
      try simp only [Act.put, List.setIfInBounds_toArray, List.set_cons_zero, List.set_cons_succ]
      refine U_take (i := 9) (v := ?_) rfl (by kernel_rfl) (by kernel_rfl) (by kernel_rfl) (by kernel_rfl) (fun _ _ _ h => h) (Or.inl ⟨by rfl, ?_⟩) hH ?_
      rotate_left
      · intro w hSw
        try dsimp only at hSw
        go_simp
        try with_reducible rfl
      try simp only [Act.put, List.setIfInBounds_toArray, List.set_cons_zero, List.set_cons_succ]
      refine U_take (i := 10) (v := ?_) rfl (by kernel_rfl) (by kernel_rfl) (by kernel_rfl) (by kernel_rfl) (fun _ _ _ h => h) (Or.inl ⟨by rfl, ?_⟩) hH ?_
      rotate_left
      · intro w hSw
        try dsimp only at hSw
        go_simp
        try with_reducible rfl
      try simp only [Act.put, List.setIfInBounds_toArray, List.set_cons_zero, List.set_cons_succ]
      refine U_take (i := 11) (v := ?_) rfl (by kernel_rfl) (by kernel_rfl) (by kernel_rfl) (by kernel_rfl) (fun _ _ _ h => h) (Or.inl ⟨by rfl, ?_⟩) hH ?_
      rotate_left
      · intro w hSw
        try dsimp only at hSw
        go_simp
        try with_reducible rfl
      try simp only [Act.put, List.setIfInBounds_toArray, List.set_cons_zero, List.set_cons_succ]
      refine U_take (i := 12) (v := ?_) rfl (by kernel_rfl) (by kernel_rfl) (by kernel_rfl) (by kernel_rfl) (fun _ _ _ h => h) (Or.inl ⟨by rfl, ?_⟩) hH ?_
      rotate_left
      · intro w hSw
        try dsimp only at hSw
        go_simp
        try with_reducible rfl
      try simp only [Act.put, List.setIfInBounds_toArray, List.set_cons_zero, List.set_cons_succ]
      clear hH
      refine U_one (i := 13) (by kernel_rfl) rfl (fun K hK => ?_)
      go_simp
      (with_reducible refine (rMul he13a hp (SzQ.fit (HBZ.out n hn k (by omega))) (SzQ.fit sp)).mono ?_)
      rintro e w29 ⟨_, rfl, h14, hb⟩
      obtain ⟨sh14, ah14, nh14, ch14, Ah14, Nh14, Ch14, rfl⟩ := h14.shape
      replace hs := bStep hs hb
      replace Blp := Blp.mono hb
      replace hp := hp.mono hb
      replace he3 := he3.mono hb
      replace he5a := he5a.mono hb
      replace h6 := h6.mono hb
      replace h7 := h7.mono hb
      replace h8 := h8.mono hb
      replace he11 := he11.mono hb
      replace he13a := he13a.mono hb
      replace hl := rowsJ RC.kept _ _ _ hl hb
      replace Vnx := VecR.mono RC.kept Vnx hb
      replace cp_0 := cellK cp_0 hb
      replace cp_1 := cellK cp_1 hb
      replace cp_2 := cellK cp_2 hb
      replace Ee110 := cellK Ee110 hb
      replace Ee111 := cellK Ee111 hb
      replace Ee112 := cellK Ee112 hb
      replace Ee130 := cellK Ee130 hb
      replace Ee131 := cellK Ee131 hb
      replace Ee132 := cellK Ee132 hb
      clear hb
      try go_wp2_with fail
      refine hK.out _ _ ⟨cp_0, cp_1, cp_2, Ee110, Ee111, Ee112, Ee130, Ee131, Ee132⟩ (fun hH => ?_)
      clear hK K
      try simp only [Act.put, List.setIfInBounds_toArray, List.set_cons_zero, List.set_cons_succ]
      clear hH
      refine U_one (i := 14) (by kernel_rfl) rfl (fun K hK => ?_)
      go_simp
      (with_reducible refine (rAdd he11 h14 (SzQ.fit szQ_zero) (SzQ.fit (SzQ.mul (HBZ.out n hn k (by omega)) sp))).mono ?_)
      rintro e w30 ⟨_, rfl, h15, hb⟩
      obtain ⟨sh15, ah15, nh15, ch15, Ah15, Nh15, Ch15, rfl⟩ := h15.shape
      replace hs := bStep hs hb
      replace Blp := Blp.mono hb
      replace hp := hp.mono hb
      replace he3 := he3.mono hb
      replace he5a := he5a.mono hb
      replace h6 := h6.mono hb
      replace h7 := h7.mono hb
      replace h8 := h8.mono hb
      replace he11 := he11.mono hb
      replace he13a := he13a.mono hb
      replace h14 := h14.mono hb
      replace hl := rowsJ RC.kept _ _ _ hl hb
      replace Vnx := VecR.mono RC.kept Vnx hb
      replace cp_0 := cellK cp_0 hb
      replace cp_1 := cellK cp_1 hb
      replace cp_2 := cellK cp_2 hb
      replace Ee110 := cellK Ee110 hb
      replace Ee111 := cellK Ee111 hb
      replace Ee112 := cellK Ee112 hb
      replace Ee130 := cellK Ee130 hb
      replace Ee131 := cellK Ee131 hb
      replace Ee132 := cellK Ee132 hb
      clear hb
      try go_wp2_with fail
      refine hK.out _ _ ⟨cp_0, cp_1, cp_2, Ee110, Ee111, Ee112, Ee130, Ee131, Ee132⟩ (fun hH => ?_)
      clear hK K
      try simp only [Act.put, List.setIfInBounds_toArray, List.set_cons_zero, List.set_cons_succ]
      refine U_take (i := 15) (v := ?_) rfl (by kernel_rfl) (by kernel_rfl) (by kernel_rfl) (by kernel_rfl) (fun _ _ _ h => h) (Or.inl ⟨by rfl, ?_⟩) hH ?_
      rotate_left
      · intro w hSw
        try dsimp only at hSw
        go_simp
        try with_reducible rfl
      try simp only [Act.put, List.setIfInBounds_toArray, List.set_cons_zero, List.set_cons_succ]
      clear hH
      have fVnx := Vnx.free
      have LVnx : w1.heap.size < w30.heap.size := Vnx.lt
      refine U_last (by kernel_rfl) rfl (by kernel_rfl) (fun K hK => ?_)
      go_simp
      refine hK.out _ _ ?_
      clear hK K
      intro w31 hW
      have hG : Gr [w1.heap.size] w30 w31 := by rw [hW]; exact (Gr.refl _ _).set.set.set
      have hsz := hs.size
      have hbw : Below w.heap.size w30 w31 := hG.below1 hs.size (by first | omega | assumption)
      have hk : KeepD w30 w31 := hG.keep ⟨⟨_, Vnx.ty, by decide⟩, True.intro⟩
      have V1nx : VecR 36 3 RC w31 (w1.heap.size) ((evM p n k).set (k + 1) (0 + ((nthQ (binL p n) k) * p))) := by rw [hW]; exact (Vnx.put3 RC.kept (show (k + 1) < (evM p n k).length by (first | (rw [evL_len]; omega) | (rw [evM_len]; omega))) (by decide) ⟨_, _, _, rfl, h15⟩ ((Gr.refl _ _)))
      rw [evM_set (by omega)] at V1nx
      replace hs := hs.trans hbw
      replace hl := hl.gr RC.kept hG (notMem1 (by omega)) hk
      replace Blp := hG.bx Blp (notMem1 (by omega))
      replace Vnx := V1nx
      clear V1nx
      replace hp := hp.keep hk
      replace he3 := he3.keep hk
      replace he5a := he5a.keep hk
      replace h6 := h6.keep hk
      replace h7 := h7.keep hk
      replace h8 := h8.keep hk
      replace he11 := he11.keep hk
      replace he13a := he13a.keep hk
      replace h14 := h14.keep hk
      replace h15 := h15.keep hk
      clear hW hG hk hbw hsz
      try simp only [Act.put, List.setIfInBounds_toArray, List.set_cons_zero, List.set_cons_succ]
      clear cp_0 cp_1 cp_2 Ee110 Ee111 Ee112 Ee130 Ee131 Ee132
      go_wp2
      go_roundw
      case rel => exact ⟨k + 1, by omega, by go_num, hs, Blp, hp, hl, Vnx⟩
      all_goals first | (simp [intOf]; done) | (simp [intOf]; omega)
    · have q1d : ((k : Int) < ((binL p n).length : Int)) = False := eq_false (by omega)
      go_wp2
      obtain rfl : k = n + 1 := by omega
      have hR := Vnx.rows (by rw [evL_len]; omega)
      rw [evL_len, evL_all] at hR
      have hR := (show Rows 3 36 RC wr (.slice (some ⟨w1.heap.size, 0, none⟩) ((binL p n).length + 1) ((binL p n).length + 1)) (binL p (n + 1)) from by rw [binL_len]; exact hR)
      clear Vnx
      go_ret
      exact ⟨_, rfl, hR, hs⟩

set_option maxRecDepth 100000 in
set_option maxHeartbeats 16000000 in
theorem r8_chances {v : Value} {p : Rat} {n : Nat} (w : World) (hp : RV w v p) (sp : SzQ 1 p) (h0 : 0 ≤ p) (h1 : p ≤ 1) (hn : n ≤ 64) :
    Calls Tryz.prog 72 #[.int .i64 n, v] w (Ret1 (fun w v => Rows 3 36 RC w v (binL p n)) w) := by
  obtain ⟨shp, ahp, nhp, chp, Ahp, Nhp, Chp, rfl⟩ := hp.shape
  have hs := Below.refl w.heap.size w
  have HP := Lib.hid (And.intro h0 h1)
  have HBZ := Lib.hid (fun m (hm : m ≤ 64) => binL_mid h0 h1 sp hm)
  clear h0 h1
  go_enter Tryz.func72, Tryz.ntmps72
  go_wp2_with fail
  refine Calls.abs ?_
  intro w1 hW
  have hG : Gr [] w w1 := by rw [hW]; exact (Gr.refl _ _).alloc
  have hbw : Below w.heap.size w w1 := hG.below0 hs.size
  have hk : KeepD w w1 := hG.keep True.intro
  have sz_w1 : w.heap.size ≤ w.heap.size := hs.size
  have Blp : Bx w1 (w.heap.size) 36 #[.bool shp, .slice ahp nhp chp, .slice Ahp Nhp Chp] := by rw [hW]; exact (Bx.new0 _ _ _)
  replace hs := hs.trans hbw
  replace hp := hp.keep hk
  clear hW hG hk hbw
  have hz_w1 : w.heap.size < w1.heap.size := Blp.lt
  with_reducible refine (r_one _).mono ?_
  rintro e w2 ⟨_, rfl, h1, hb⟩
  obtain ⟨sh1, ah1, nh1, ch1, Ah1, Nh1, Ch1, rfl⟩ := h1.shape
  replace hs := bStep hs hb
  replace Blp := Blp.mono hb
  replace hp := hp.mono hb
  clear hb
  go_wp2
  refine Code.abs ?_
  intro w3 hW
  have hG : Gr [] w2 w3 := by rw [hW]; exact (Gr.refl _ _).alloc
  have hbw : Below w.heap.size w2 w3 := hG.below0 hs.size
  have hk : KeepD w2 w3 := hG.keep True.intro
  have sz_w3 : w.heap.size ≤ w2.heap.size := hs.size
  have np_w3 : w.heap.size < w2.heap.size := Blp.lt
  have Blls : Bx w3 (w2.heap.size) 36 #[.bool sh1, .slice ah1 nh1 ch1, .slice Ah1 Nh1 Ch1] := by rw [hW]; exact (Bx.new0 _ _ _)
  replace hs := hs.trans hbw
  replace Blp := hG.bx Blp notMem0
  replace hp := hp.keep hk
  replace h1 := h1.keep hk
  clear hW hG hk hbw
  have hz_w3 : w2.heap.size < w3.heap.size := Blls.lt
  go_loopw [5, 6] (fun s5 s6 wq => ∃ k : Nat, k ≤ n ∧ s6 = .int .i64 k ∧ Below w.heap.size w wq ∧ Bx wq (w.heap.size) 36 #[.bool shp, .slice ahp nhp chp, .slice Ahp Nhp Chp] ∧ Bx wq (w2.heap.size) 36 #[.bool sh1, .slice ah1 nh1 ch1, .slice Ah1 Nh1 Ch1] ∧ RV wq (.agg #[.bool shp, .slice ahp nhp chp, .slice Ahp Nhp Chp]) (p) ∧ RV wq (.agg #[.bool sh1, .slice ah1 nh1 ch1, .slice Ah1 Nh1 Ch1]) (1) ∧ Rows 3 36 RC wq s5 (binL p k)) (fun s5 s6 _ => n - (intOf s6).toNat)
  case atStart => exact ⟨0, Nat.zero_le _, rfl, hs, Blp, Blls, hp, h1, rowsR1 Blls h1⟩
  case round =>
    clear Blp Blls hp h1 hs
    obtain ⟨k, k_le, rfl, hs, Blp, Blls, hp, h1, hl⟩ := hrel
    obtain ⟨bhl, ohl, khl, rfl, hl1, hl2, -⟩ := hl.open_ (by rw [binL_len]; omega)
    by_cases q2 : k < n
    · have q2d : ((k : Int) < (n : Int)) = True := eq_true (by omega)
      have cp_0 : wr.cell? ⟨w.heap.size, 0, none⟩ = some (.bool shp) := Blp.at 0 rfl
      have cp_1 : wr.cell? ⟨w.heap.size, 1, none⟩ = some (.slice ahp nhp chp) := Blp.at 1 rfl
      have cp_2 : wr.cell? ⟨w.heap.size, 2, none⟩ = some (.slice Ahp Nhp Chp) := Blp.at 2 rfl
      have Lp : w.heap.size < wr.heap.size := Blp.lt
      go_wp2_with fail
      clear cp_0 cp_1 cp_2 Lp
      with_reducible refine (r8_event (n := k) _ hl hp sp HP.out.1 HP.out.2 (by omega)).mono ?_
      rintro e w24 ⟨_, rfl, h3, hb⟩
      obtain ⟨bh3, oh3, kh3, rfl, h31, h32, -⟩ := h3.open_ (by rw [binL_len]; omega)
      replace hs := bStep hs hb
      replace Blp := Blp.mono hb
      replace Blls := Blls.mono hb
      replace hp := hp.mono hb
      replace h1 := h1.mono hb
      replace hl := rowsJ RC.kept _ _ _ hl hb
      clear hb
      go_wp2
      go_roundw
      case rel => exact ⟨k + 1, by omega, by go_num, hs, Blp, Blls, hp, h1, h3⟩
      all_goals first | (simp [intOf]; done) | (simp [intOf]; omega)
    · have q2d : ((k : Int) < (n : Int)) = False := eq_false (by omega)
      go_wp2
      obtain rfl : k = n := by omega
      go_ret
      exact ⟨_, rfl, hl, hs⟩

set_option maxRecDepth 100000 in
set_option maxHeartbeats 16000000 in
theorem r8_from {v : Value} {p : Rat} {n K : Nat} {k : Int} (w : World) (hl : Rows 3 36 RC w v (binL p n)) (hk : max k 0 = (K : Int)) (hK : K ≤ 9223372036854775807) (sp : SzQ 1 p) (h0 : 0 ≤ p) (h1 : p ≤ 1) (hn : n ≤ 64) :
    Calls Tryz.prog 75 #[v, .int .i64 k] w (RetQ w (tlQ p n K)) := by
  obtain ⟨bhl, ohl, khl, rfl, hl1, hl2, -⟩ := hl.open_ (by rw [binL_len]; omega)
  have hs := Below.refl w.heap.size w
  have kl1 : (binL p n).length ≤ n + 1 := Nat.le_of_eq (binL_len p n)
  have kl2 : n + 1 ≤ (binL p n).length := Nat.le_of_eq (binL_len p n).symm
  have HK := Lib.hid hk
  have HBZ := Lib.hid (fun m (hm : m ≤ 64) => binL_mid h0 h1 sp hm)
  have HSZ := Lib.hid (fun m (hm : m ≤ 65) => sum_mid h0 h1 sp hn K m hm)
  clear h0 h1 hk
  go_enter Tryz.func75, Tryz.ntmps75
  go_wp2_with fail
  refine Calls.abs ?_
  intro w1 hW
  have hG : Gr [] w w1 := by rw [hW]; exact (Gr.refl _ _).alloc
  have hbw : Below w.heap.size w w1 := hG.below0 hs.size
  have hk : KeepD w w1 := hG.keep True.intro
  have sz_w1 : w.heap.size ≤ w.heap.size := hs.size
  have nhl_w1 : bhl < w.heap.size := hl.lt (by omega)
  have Blk : Bx w1 (w.heap.size) 36 #[.bool false, .slice none 0 0, .slice none 0 0] := by rw [hW]; exact (Bx.new0 _ _ _)
  replace hs := hs.trans hbw
  replace hl := rowsJ RC.kept _ _ _ hl (hG.below0 (Nat.le_refl _))
  clear hW hG hk hbw
  have hz_w1 : w.heap.size < w1.heap.size := Blk.lt
  with_reducible refine (r_zero _).mono ?_
  rintro e w2 ⟨_, rfl, h1, hb⟩
  obtain ⟨sh1, ah1, nh1, ch1, Ah1, Nh1, Ch1, rfl⟩ := h1.shape
  replace hs := bStep hs hb
  replace Blk := Blk.mono hb
  replace hl := rowsJ RC.kept _ _ _ hl hb
  clear hb
  go_wp2
  refine Code.abs ?_
  intro w3 hW
  have hG : Gr [] w2 w3 := by rw [hW]; exact (Gr.refl _ _).alloc
  have hbw : Below w.heap.size w2 w3 := hG.below0 hs.size
  have hk : KeepD w2 w3 := hG.keep True.intro
  have sz_w3 : w.heap.size ≤ w2.heap.size := hs.size
  have nk_w3 : w.heap.size < w2.heap.size := Blk.lt
  have nhl_w3 : bhl < w2.heap.size := hl.lt (by omega)
  have Blsum : Bx w3 (w2.heap.size) 36 #[.bool sh1, .slice ah1 nh1 ch1, .slice Ah1 Nh1 Ch1] := by rw [hW]; exact (Bx.new0 _ _ _)
  replace hs := hs.trans hbw
  replace hl := rowsJ RC.kept _ _ _ hl (hG.below0 (Nat.le_refl _))
  replace Blk := hG.bx Blk notMem0
  replace h1 := h1.keep hk
  clear hW hG hk hbw
  have hz_w3 : w2.heap.size < w3.heap.size := Blsum.lt
  rw [HK.out]
  go_loopw [6] (fun s6 wq => ∃ j : Nat, K ≤ j ∧ j ≤ max K (n + 1) ∧ s6 = .int .i64 j ∧ Below w.heap.size w wq ∧ Bx wq (w.heap.size) 36 #[.bool false, .slice none 0 0, .slice none 0 0] ∧ Rows 3 36 RC wq (.slice (some ⟨bhl, ohl, none⟩) (binL p n).length khl) ((binL p n)) ∧ BoxR wq (w2.heap.size) (sumF (binQ p n) K (j - K))) (fun s6 _ => max K (n + 1) - (intOf s6).toNat)
  case atStart => exact ⟨K, Nat.le_refl _, by omega, rfl, hs, Blk, hl, ⟨_, _, _, _, _, _, _, Blsum, (h1.of_eq (by rw [Nat.sub_self]; rfl))⟩⟩
  case round =>
    clear Blk Blsum h1 hl hs
    obtain ⟨j, k_ge, k_le, rfl, hs, Blk, hl, ⟨sh2, ah2, nh2, ch2, Ah2, Nh2, Ch2, Blsum, h2⟩⟩ := hrel
    by_cases q3 : j < (binL p n).length
    · have q3d : ((j : Int) < ((binL p n).length : Int)) = True := eq_true (by omega)
      go_upto_region 5 with fail
      have BI4a : j < (binL p n).length := by omega
      have BI4b : ((j : Int) : Int) < ((binL p n).length : Int) := by omega
      obtain ⟨ge5a, ae5a, ne5a, ce5a, Ae5a, Ne5a, De5a, Ee50, Ee51, Ee52, he5a, le5⟩ := rowR_at hl (show j < (binL p n).length by omega)
      refine U_region (S := fun w' => w'.cell? ⟨w2.heap.size, 0, none⟩ = some (.bool sh2) ∧ w'.cell? ⟨w2.heap.size, 1, none⟩ = some (.slice ah2 nh2 ch2) ∧ w'.cell? ⟨w2.heap.size, 2, none⟩ = some (.slice Ah2 Nh2 Ch2) ∧ w'.cell? ⟨bhl, ohl + j * 3, none⟩ = some (.bool ge5a) ∧ w'.cell? ⟨bhl, ohl + j * 3 + 1, none⟩ = some (.slice ae5a ne5a ce5a) ∧ w'.cell? ⟨bhl, ohl + j * 3 + 2, none⟩ = some (.slice Ae5a Ne5a De5a)) (by kernel_rfl) 6 ?_
      refine AnyU.abs ?_
      intro w24 hW
      have hb : Below wr.heap.size wr w24 := by rw [hW]; exact bDrew _
      replace hs := bStep hs hb
      replace Blk := Blk.mono hb
      replace Blsum := Blsum.mono hb
      replace h2 := h2.mono hb
      replace he5a := he5a.mono hb
      replace hl := rowsJ RC.kept _ _ _ hl hb
      replace Ee50 := cellK Ee50 hb
      replace Ee51 := cellK Ee51 hb
      replace Ee52 := cellK Ee52 hb
      clear hb hW
      have csum_0 : w24.cell? ⟨w2.heap.size, 0, none⟩ = some (.bool sh2) := Blsum.at 0 rfl
      have csum_1 : w24.cell? ⟨w2.heap.size, 1, none⟩ = some (.slice ah2 nh2 ch2) := Blsum.at 1 rfl
      have csum_2 : w24.cell? ⟨w2.heap.size, 2, none⟩ = some (.slice Ah2 Nh2 Ch2) := Blsum.at 2 rfl
      have hH := (show w24.cell? ⟨w2.heap.size, 0, none⟩ = some (.bool sh2) ∧ w24.cell? ⟨w2.heap.size, 1, none⟩ = some (.slice ah2 nh2 ch2) ∧ w24.cell? ⟨w2.heap.size, 2, none⟩ = some (.slice Ah2 Nh2 Ch2) ∧ w24.cell? ⟨bhl, ohl + j * 3, none⟩ = some (.bool ge5a) ∧ w24.cell? ⟨bhl, ohl + j * 3 + 1, none⟩ = some (.slice ae5a ne5a ce5a) ∧ w24.cell? ⟨bhl, ohl + j * 3 + 2, none⟩ = some (.slice Ae5a Ne5a De5a) from ⟨csum_0, csum_1, csum_2, Ee50, Ee51, Ee52⟩)
      refine U_take (i := 0) (v := ?_) rfl (by kernel_rfl) (by kernel_rfl) (by kernel_rfl) (by kernel_rfl) (fun _ _ _ h => h) (Or.inl ⟨by rfl, ?_⟩) hH ?_
      rotate_left
      · intro w hSw
        try dsimp only at hSw
        go_simp
        try with_reducible rfl
      try simp only [Act.put, List.setIfInBounds_toArray, List.set_cons_zero, List.set_cons_succ]
      refine U_take (i := 1) (v := ?_) rfl (by kernel_rfl) (by kernel_rfl) (by kernel_rfl) (by kernel_rfl) (fun _ _ _ h => h) (Or.inl ⟨by rfl, ?_⟩) hH ?_
      rotate_left
      · intro w hSw
        try dsimp only at hSw
        go_simp
        try with_reducible rfl
      try simp only [Act.put, List.setIfInBounds_toArray, List.set_cons_zero, List.set_cons_succ]
      refine U_take (i := 2) (v := ?_) rfl (by kernel_rfl) (by kernel_rfl) (by kernel_rfl) (by kernel_rfl) (fun _ _ _ h => h) (Or.inl ⟨by rfl, ?_⟩) hH ?_
      rotate_left
      · intro w hSw
        try dsimp only at hSw
        go_simp
        try with_reducible rfl
      try simp only [Act.put, List.setIfInBounds_toArray, List.set_cons_zero, List.set_cons_succ]
      refine U_take (i := 3) (v := ?_) rfl (by kernel_rfl) (by kernel_rfl) (by kernel_rfl) (by kernel_rfl) (fun _ _ _ h => h) (Or.inl ⟨by rfl, ?_⟩) hH ?_
      rotate_left
      · intro w hSw
        try dsimp only at hSw
        go_simp
        try with_reducible rfl
      try simp only [Act.put, List.setIfInBounds_toArray, List.set_cons_zero, List.set_cons_succ]
      refine U_take (i := 4) (v := ?_) rfl (by kernel_rfl) (by kernel_rfl) (by kernel_rfl) (by kernel_rfl) (fun _ _ _ h => h) (Or.inl ⟨by rfl, ?_⟩) hH ?_
      rotate_left
      · intro w hSw
        try dsimp only at hSw
        go_simp
        try with_reducible rfl
      try simp only [Act.put, List.setIfInBounds_toArray, List.set_cons_zero, List.set_cons_succ]
      clear hH
      refine U_one (i := 5) (by kernel_rfl) rfl (fun K hK => ?_)
      go_simp
      (with_reducible refine (rAdd h2 he5a (SzQ.fit (HSZ.out _ (by omega))) (SzQ.fit (HBZ.out n hn j (by omega)))).mono ?_)
      rintro e w25 ⟨_, rfl, h6, hb⟩
      obtain ⟨sh6, ah6, nh6, ch6, Ah6, Nh6, Ch6, rfl⟩ := h6.shape
      replace hs := bStep hs hb
      replace Blk := Blk.mono hb
      replace Blsum := Blsum.mono hb
      replace h2 := h2.mono hb
      replace he5a := he5a.mono hb
      replace hl := rowsJ RC.kept _ _ _ hl hb
      replace csum_0 := cellK csum_0 hb
      replace csum_1 := cellK csum_1 hb
      replace csum_2 := cellK csum_2 hb
      replace Ee50 := cellK Ee50 hb
      replace Ee51 := cellK Ee51 hb
      replace Ee52 := cellK Ee52 hb
      clear hb
      try go_wp2_with fail
      refine hK.out _ _ ⟨csum_0, csum_1, csum_2, Ee50, Ee51, Ee52⟩ (fun hH => ?_)
      clear hK K
      try simp only [Act.put, List.setIfInBounds_toArray, List.set_cons_zero, List.set_cons_succ]
      clear hH
      have csum_0 : w25.cell? ⟨w2.heap.size, 0, none⟩ = some (.bool sh2) := Blsum.at 0 rfl
      have csum_1 : w25.cell? ⟨w2.heap.size, 1, none⟩ = some (.slice ah2 nh2 ch2) := Blsum.at 1 rfl
      have csum_2 : w25.cell? ⟨w2.heap.size, 2, none⟩ = some (.slice Ah2 Nh2 Ch2) := Blsum.at 2 rfl
      have fsum := Blsum.free
      have Lsum : w2.heap.size < w25.heap.size := Blsum.lt
      refine U_last (by kernel_rfl) rfl (by kernel_rfl) (fun K hK => ?_)
      go_simp
      refine hK.out _ _ ?_
      clear hK K
      intro w26 hW
      have hG : Gr [w2.heap.size] w25 w26 := by rw [hW]; exact (Gr.refl _ _).set.set.set
      have hsz := hs.size
      have lsum := Blsum.lt
      have hbw : Below w.heap.size w25 w26 := hG.below1 hs.size (by first | omega | assumption)
      have hk : KeepD w25 w26 := hG.keep ⟨⟨_, Blsum.ty, by decide⟩, True.intro⟩
      have Bl1sum : Bx w26 (w2.heap.size) 36 #[.bool sh6, .slice ah6 nh6 ch6, .slice Ah6 Nh6 Ch6] := by rw [hW]; exact Blsum.set3
      replace hs := hs.trans hbw
      replace hl := hl.gr RC.kept hG (notMem1 (by omega)) hk
      replace Blk := hG.bx Blk (notMem1 (by omega))
      replace Blsum := Bl1sum
      clear Bl1sum
      replace h2 := h2.keep hk
      replace he5a := he5a.keep hk
      replace h6 := h6.keep hk
      clear hW hG hk hbw hsz lsum
      try simp only [Act.put, List.setIfInBounds_toArray, List.set_cons_zero, List.set_cons_succ]
      clear csum_0 csum_1 csum_2 Ee50 Ee51 Ee52
      go_wp2
      go_roundw
      case rel => exact ⟨j + 1, by omega, by omega, by go_num, hs, Blk, hl, ⟨_, _, _, _, _, _, _, Blsum, h6.of_eq (sum_next k_ge (by omega))⟩⟩
      all_goals first | (simp [intOf]; done) | (simp [intOf]; omega)
    · have q3d : ((j : Int) < ((binL p n).length : Int)) = False := eq_false (by omega)
      have csum_0 : wr.cell? ⟨w2.heap.size, 0, none⟩ = some (.bool sh2) := Blsum.at 0 rfl
      have csum_1 : wr.cell? ⟨w2.heap.size, 1, none⟩ = some (.slice ah2 nh2 ch2) := Blsum.at 1 rfl
      have csum_2 : wr.cell? ⟨w2.heap.size, 2, none⟩ = some (.slice Ah2 Nh2 Ch2) := Blsum.at 2 rfl
      have Lsum : w2.heap.size < wr.heap.size := Blsum.lt
      have ck_0 : wr.cell? ⟨w.heap.size, 0, none⟩ = some (.bool false) := Blk.at 0 rfl
      have ck_1 : wr.cell? ⟨w.heap.size, 1, none⟩ = some (.slice none 0 0) := Blk.at 1 rfl
      have ck_2 : wr.cell? ⟨w.heap.size, 2, none⟩ = some (.slice none 0 0) := Blk.at 2 rfl
      have fk := Blk.free
      have Lk : w.heap.size < wr.heap.size := Blk.lt
      go_wp2
      clear csum_0 csum_1 csum_2 ck_0 ck_1 ck_2 fk Lsum Lk
      refine bodyPost.abs ?_
      intro w24 hW
      have hG : Gr [w.heap.size] wr w24 := by rw [hW]; exact (Gr.refl _ _).set.set.set
      have hsz := hs.size
      have lk := Blk.lt
      have hbw : Below w.heap.size wr w24 := hG.below1 hs.size (by first | omega | assumption)
      have hk : KeepD wr w24 := hG.keep ⟨⟨_, Blk.ty, by decide⟩, True.intro⟩
      have Bl1k : Bx w24 (w.heap.size) 36 #[.bool sh2, .slice ah2 nh2 ch2, .slice Ah2 Nh2 Ch2] := by rw [hW]; exact Blk.set3
      replace hs := hs.trans hbw
      replace hl := hl.gr RC.kept hG (notMem1 (by omega)) hk
      replace Blsum := hG.bx Blsum (notMem1 (by omega))
      replace Blk := Bl1k
      clear Bl1k
      replace h2 := h2.keep hk
      clear hW hG hk hbw hsz lk
      have ck_0 : w24.cell? ⟨w.heap.size, 0, none⟩ = some (.bool sh2) := Blk.at 0 rfl
      have ck_1 : w24.cell? ⟨w.heap.size, 1, none⟩ = some (.slice ah2 nh2 ch2) := Blk.at 1 rfl
      have ck_2 : w24.cell? ⟨w.heap.size, 2, none⟩ = some (.slice Ah2 Nh2 Ch2) := Blk.at 2 rfl
      exact bodyPost_ret (v := .agg #[.bool sh2, .slice ah2 nh2 ch2, .slice Ah2 Nh2 Ch2]) (by simp [results, Tryz.results75, go_sem, ck_0, ck_1, ck_2]) rfl ⟨_, rfl, h2.of_eq (sum_tail p (by omega)), hs⟩

theorem tailQ_toNat (n : Nat) (k : Int) (p : Rat) : tlQ p n k.toNat = tailQ n k p := by
  unfold tailQ
  split
  · rename_i h; rw [show k.toNat = 0 by omega]; exact tlQ_zero p n
  · rfl
set_option maxRecDepth 100000 in
set_option maxHeartbeats 16000000 in
theorem r8_tail {v : Value} {p : Rat} {n : Nat} {k : Int} (w : World) (hp : RV w v p) (sp : SzQ 1 p) (h0 : 0 ≤ p) (h1 : p ≤ 1) (hn : n ≤ 64) (hk : k ≤ 9223372036854775807) {q : Rat} (hq : tailQ n k p = q) :
    Calls Tryz.prog 69 #[.int .i64 n, .int .i64 k, v] w (RetQ w q) := by
  obtain ⟨shp, ahp, nhp, chp, Ahp, Nhp, Chp, rfl⟩ := hp.shape
  have hs := Below.refl w.heap.size w
  have HP := Lib.hid (And.intro h0 h1)
  have HBZ := Lib.hid (fun m (hm : m ≤ 64) => binL_mid h0 h1 sp hm)
  have HTZ := Lib.hid (fun m k (hm : m ≤ 64) => (tl_sz h0 h1 sp m k).mono (show m + 1 ≤ 100 by omega))
  have HQ := Lib.hid hq
  clear h0 h1 hq
  go_enter Tryz.func69, Tryz.ntmps69
  go_wp2_with fail
  refine Calls.abs ?_
  intro w1 hW
  have hG : Gr [] w w1 := by rw [hW]; exact (Gr.refl _ _).alloc.alloc
  have hbw : Below w.heap.size w w1 := hG.below0 hs.size
  have hk : KeepD w w1 := hG.keep True.intro
  have sz_w1 : w.heap.size ≤ w.heap.size := hs.size
  have Blp : Bx w1 (w.heap.size) 36 #[.bool shp, .slice ahp nhp chp, .slice Ahp Nhp Chp] := by rw [hW]; exact ((Bx.new0 _ _ _).alloc _)
  have Blk : Bx w1 (w.heap.size + 1) 36 #[.bool false, .slice none 0 0, .slice none 0 0] := by rw [hW]; exact (Bx.new0 _ _ _)
  replace hs := hs.trans hbw
  replace hp := hp.keep hk
  clear hW hG hk hbw
  have hz_w1 : w.heap.size + 1 < w1.heap.size := Blk.lt
  with_reducible refine (r8_chances (n := n) _ hp sp HP.out.1 HP.out.2 (by omega)).mono ?_
  rintro e w2 ⟨_, rfl, h1, hb⟩
  obtain ⟨bh1, oh1, kh1, rfl, h11, h12, -⟩ := h1.open_ (by rw [binL_len]; omega)
  replace hs := bStep hs hb
  replace Blp := Blp.mono hb
  replace Blk := Blk.mono hb
  replace hp := hp.mono hb
  clear hb
  go_wp2_with fail
  with_reducible refine (r8_from (n := n) (K := k.toNat) _ h1 (by omega) (by omega) sp HP.out.1 HP.out.2 (by omega)).mono ?_
  rintro e w3 ⟨_, rfl, h2, hb⟩
  obtain ⟨sh2, ah2, nh2, ch2, Ah2, Nh2, Ch2, rfl⟩ := h2.shape
  replace hs := bStep hs hb
  replace Blp := Blp.mono hb
  replace Blk := Blk.mono hb
  replace hp := hp.mono hb
  clear hb
  have ck_0 : w3.cell? ⟨w.heap.size + 1, 0, none⟩ = some (.bool false) := Blk.at 0 rfl
  have ck_1 : w3.cell? ⟨w.heap.size + 1, 1, none⟩ = some (.slice none 0 0) := Blk.at 1 rfl
  have ck_2 : w3.cell? ⟨w.heap.size + 1, 2, none⟩ = some (.slice none 0 0) := Blk.at 2 rfl
  have fk := Blk.free
  have Lk : w.heap.size + 1 < w3.heap.size := Blk.lt
  go_wp2
  clear ck_0 ck_1 ck_2 fk Lk
  refine bodyPost.abs ?_
  intro w4 hW
  have hG : Gr [w.heap.size + 1] w3 w4 := by rw [hW]; exact (Gr.refl _ _).set.set.set
  have hsz := hs.size
  have lk := Blk.lt
  have hbw : Below w.heap.size w3 w4 := hG.below1 hs.size (by first | omega | assumption)
  have hk : KeepD w3 w4 := hG.keep ⟨⟨_, Blk.ty, by decide⟩, True.intro⟩
  have Bl1k : Bx w4 (w.heap.size + 1) 36 #[.bool sh2, .slice ah2 nh2 ch2, .slice Ah2 Nh2 Ch2] := by rw [hW]; exact Blk.set3
  replace hs := hs.trans hbw
  replace Blp := hG.bx Blp (notMem1 (by omega))
  replace Blk := Bl1k
  clear Bl1k
  replace hp := hp.keep hk
  replace h2 := h2.keep hk
  clear hW hG hk hbw hsz lk
  have ck_0 : w4.cell? ⟨w.heap.size + 1, 0, none⟩ = some (.bool sh2) := Blk.at 0 rfl
  have ck_1 : w4.cell? ⟨w.heap.size + 1, 1, none⟩ = some (.slice ah2 nh2 ch2) := Blk.at 1 rfl
  have ck_2 : w4.cell? ⟨w.heap.size + 1, 2, none⟩ = some (.slice Ah2 Nh2 Ch2) := Blk.at 2 rfl
  exact bodyPost_ret (v := .agg #[.bool sh2, .slice ah2 nh2 ch2, .slice Ah2 Nh2 Ch2]) (by simp [results, Tryz.results69, go_sem, ck_0, ck_1, ck_2]) rfl ⟨_, rfl, h2.of_eq ((tailQ_toNat n k p).trans HQ.out), hs⟩

set_option maxRecDepth 100000 in
set_option maxHeartbeats 8000000 in
theorem r8_Tail_ok {v : Value} {p : Rat} {n : Nat} {k : Int} (w : World) (hp : RV w v p) (sp : SzQ 1 p) (h0 : 0 ≤ p) (h1 : p ≤ 1) (hn : n ≤ 64) (hk : k ≤ 9223372036854775807) {q : Rat} (hq : tailQ n k p = q) :
    Calls Tryz.prog 14 #[.int .i64 n, .int .i64 k, v] w (RetQE w q 0) := by
  obtain ⟨shp, ahp, nhp, chp, Ahp, Nhp, Chp, rfl⟩ := hp.shape
  have hs := Below.refl w.heap.size w
  have HP := Lib.hid (show 0 ≤ p ∧ p ≤ 1 from ⟨h0, h1⟩)
  have sq : SzQ 65 q := hq ▸ (tail_sz h0 h1 sp n k).mono (by omega)
  have HQ := Lib.hid hq
  clear h0 h1 hq
  go_enter Tryz.func14, Tryz.ntmps14
  have q1 : ¬ (n < 0) := (by omega)
  have q1d : ((n : Int) < 0) = False := eq_false (by omega)
  have q2 : ¬ (64 < n) := (by omega)
  have q2d : ((64 : Int) < (n : Int)) = False := eq_false (by omega)
  go_wp2_with fail
  refine Calls.abs ?_
  intro w1 hW
  have hG : Gr [] w w1 := by rw [hW]; exact (Gr.refl _ _).alloc.alloc
  have hbw : Below w.heap.size w w1 := hG.below0 hs.size
  have hk : KeepD w w1 := hG.keep True.intro
  have sz_w1 : w.heap.size ≤ w.heap.size := hs.size
  have Blp : Bx w1 (w.heap.size) 36 #[.bool shp, .slice ahp nhp chp, .slice Ahp Nhp Chp] := by rw [hW]; exact ((Bx.new0 _ _ _).alloc _)
  have Blk : Bx w1 (w.heap.size + 1) 36 #[.bool false, .slice none 0 0, .slice none 0 0] := by rw [hW]; exact (Bx.new0 _ _ _)
  replace hs := hs.trans hbw
  replace hp := hp.keep hk
  clear hW hG hk hbw
  have hz_w1 : w.heap.size + 1 < w1.heap.size := Blk.lt
  with_reducible refine (r8_Chance _ _ _ hp (SzQ.mid sp) rfl).mono ?_
  rintro e w2 ⟨rfl, hb⟩
  replace hs := bStep hs hb
  replace Blp := Blp.mono hb
  replace Blk := Blk.mono hb
  replace hp := hp.mono hb
  clear hb
  obtain ⟨b3, Hb3⟩ : ∃ b : Bool, b = decide (0 ≤ p ∧ p ≤ 1) := ⟨_, rfl⟩
  rw [← Hb3]
  replace Hb3 := Lib.hid Hb3
  have q4 : 0 ≤ p ∧ p ≤ 1 := HP.out
  obtain rfl : b3 = true := by rw [Hb3.out]; exact decide_eq_true q4
  have q4H := Lib.hid q4
  clear q4
  have cp_0 : w2.cell? ⟨w.heap.size, 0, none⟩ = some (.bool shp) := Blp.at 0 rfl
  have cp_1 : w2.cell? ⟨w.heap.size, 1, none⟩ = some (.slice ahp nhp chp) := Blp.at 1 rfl
  have cp_2 : w2.cell? ⟨w.heap.size, 2, none⟩ = some (.slice Ahp Nhp Chp) := Blp.at 2 rfl
  have Lp : w.heap.size < w2.heap.size := Blp.lt
  go_wp2_with fail
  clear cp_0 cp_1 cp_2 Lp
  with_reducible refine (r8_tail _ hp sp HP.out.1 HP.out.2 (by omega) (by omega) HQ.out).mono ?_
  rintro e w3 ⟨_, rfl, h5, hb⟩
  obtain ⟨sh5, ah5, nh5, ch5, Ah5, Nh5, Ch5, rfl⟩ := h5.shape
  replace hs := bStep hs hb
  replace Blp := Blp.mono hb
  replace Blk := Blk.mono hb
  replace hp := hp.mono hb
  clear hb
  have ck_0 : w3.cell? ⟨w.heap.size + 1, 0, none⟩ = some (.bool false) := Blk.at 0 rfl
  have ck_1 : w3.cell? ⟨w.heap.size + 1, 1, none⟩ = some (.slice none 0 0) := Blk.at 1 rfl
  have ck_2 : w3.cell? ⟨w.heap.size + 1, 2, none⟩ = some (.slice none 0 0) := Blk.at 2 rfl
  have fk := Blk.free
  have Lk : w.heap.size + 1 < w3.heap.size := Blk.lt
  go_wp2
  clear ck_0 ck_1 ck_2 fk Lk
  refine bodyPost.abs ?_
  intro w4 hW
  have hG : Gr [w.heap.size + 1] w3 w4 := by rw [hW]; exact (Gr.refl _ _).set.set.set
  have hsz := hs.size
  have lk := Blk.lt
  have hbw : Below w.heap.size w3 w4 := hG.below1 hs.size (by first | omega | assumption)
  have hk : KeepD w3 w4 := hG.keep ⟨⟨_, Blk.ty, by decide⟩, True.intro⟩
  have Bl1k : Bx w4 (w.heap.size + 1) 36 #[.bool sh5, .slice ah5 nh5 ch5, .slice Ah5 Nh5 Ch5] := by rw [hW]; exact Blk.set3
  replace hs := hs.trans hbw
  replace Blp := hG.bx Blp (notMem1 (by omega))
  replace Blk := Bl1k
  clear Bl1k
  replace hp := hp.keep hk
  replace h5 := h5.keep hk
  clear hW hG hk hbw hsz lk
  have ck_0 : w4.cell? ⟨w.heap.size + 1, 0, none⟩ = some (.bool sh5) := Blk.at 0 rfl
  have ck_1 : w4.cell? ⟨w.heap.size + 1, 1, none⟩ = some (.slice ah5 nh5 ch5) := Blk.at 1 rfl
  have ck_2 : w4.cell? ⟨w.heap.size + 1, 2, none⟩ = some (.slice Ah5 Nh5 Ch5) := Blk.at 2 rfl
  exact bodyPost_ret (v := .tuple #[.agg #[.bool sh5, .slice ah5 nh5 ch5, .slice Ah5 Nh5 Ch5], .int .i64 0]) (by simp [results, Tryz.results14, go_sem, ck_0, ck_1, ck_2]) rfl ⟨_, rfl, h5, hs⟩

set_option maxRecDepth 100000 in
set_option maxHeartbeats 8000000 in
theorem r8_Tail_bad1 {v : Value} {p : Rat} {n k : Int} (w : World) (hp : RV w v p) (hn : n < 0) :
    Calls Tryz.prog 14 #[.int .i64 n, .int .i64 k, v] w (RetQE w 0 1) := by
  obtain ⟨shp, ahp, nhp, chp, Ahp, Nhp, Chp, rfl⟩ := hp.shape
  have hs := Below.refl w.heap.size w
  go_enter Tryz.func14, Tryz.ntmps14
  have q1 : n < 0 := (by omega)
  have q1d : (n < 0) = True := eq_true (by omega)
  go_wp2_with fail
  refine Calls.abs ?_
  intro w1 hW
  have hG : Gr [] w w1 := by rw [hW]; exact (Gr.refl _ _).alloc.alloc
  have hbw : Below w.heap.size w w1 := hG.below0 hs.size
  have hk : KeepD w w1 := hG.keep True.intro
  have sz_w1 : w.heap.size ≤ w.heap.size := hs.size
  have Blp : Bx w1 (w.heap.size) 36 #[.bool shp, .slice ahp nhp chp, .slice Ahp Nhp Chp] := by rw [hW]; exact ((Bx.new0 _ _ _).alloc _)
  have Blk : Bx w1 (w.heap.size + 1) 36 #[.bool false, .slice none 0 0, .slice none 0 0] := by rw [hW]; exact (Bx.new0 _ _ _)
  replace hs := hs.trans hbw
  replace hp := hp.keep hk
  clear hW hG hk hbw
  have hz_w1 : w.heap.size + 1 < w1.heap.size := Blk.lt
  with_reducible refine (r_zero _).mono ?_
  rintro e w2 ⟨_, rfl, h2, hb⟩
  obtain ⟨sh2, ah2, nh2, ch2, Ah2, Nh2, Ch2, rfl⟩ := h2.shape
  replace hs := bStep hs hb
  replace Blp := Blp.mono hb
  replace Blk := Blk.mono hb
  replace hp := hp.mono hb
  clear hb
  have ck_0 : w2.cell? ⟨w.heap.size + 1, 0, none⟩ = some (.bool false) := Blk.at 0 rfl
  have ck_1 : w2.cell? ⟨w.heap.size + 1, 1, none⟩ = some (.slice none 0 0) := Blk.at 1 rfl
  have ck_2 : w2.cell? ⟨w.heap.size + 1, 2, none⟩ = some (.slice none 0 0) := Blk.at 2 rfl
  have fk := Blk.free
  have Lk : w.heap.size + 1 < w2.heap.size := Blk.lt
  go_wp2
  clear ck_0 ck_1 ck_2 fk Lk
  refine bodyPost.abs ?_
  intro w3 hW
  have hG : Gr [w.heap.size + 1] w2 w3 := by rw [hW]; exact (Gr.refl _ _).set.set.set
  have hsz := hs.size
  have lk := Blk.lt
  have hbw : Below w.heap.size w2 w3 := hG.below1 hs.size (by first | omega | assumption)
  have hk : KeepD w2 w3 := hG.keep ⟨⟨_, Blk.ty, by decide⟩, True.intro⟩
  have Bl1k : Bx w3 (w.heap.size + 1) 36 #[.bool sh2, .slice ah2 nh2 ch2, .slice Ah2 Nh2 Ch2] := by rw [hW]; exact Blk.set3
  replace hs := hs.trans hbw
  replace Blp := hG.bx Blp (notMem1 (by omega))
  replace Blk := Bl1k
  clear Bl1k
  replace hp := hp.keep hk
  replace h2 := h2.keep hk
  clear hW hG hk hbw hsz lk
  have ck_0 : w3.cell? ⟨w.heap.size + 1, 0, none⟩ = some (.bool sh2) := Blk.at 0 rfl
  have ck_1 : w3.cell? ⟨w.heap.size + 1, 1, none⟩ = some (.slice ah2 nh2 ch2) := Blk.at 1 rfl
  have ck_2 : w3.cell? ⟨w.heap.size + 1, 2, none⟩ = some (.slice Ah2 Nh2 Ch2) := Blk.at 2 rfl
  exact bodyPost_ret (v := .tuple #[.agg #[.bool sh2, .slice ah2 nh2 ch2, .slice Ah2 Nh2 Ch2], .int .i64 1]) (by simp [results, Tryz.results14, go_sem, ck_0, ck_1, ck_2]) rfl ⟨_, rfl, h2, hs⟩

set_option maxRecDepth 100000 in
set_option maxHeartbeats 8000000 in
theorem r8_Tail_bad2 {v : Value} {p : Rat} {n k : Int} (w : World) (hp : RV w v p) (hn : 64 < n) :
    Calls Tryz.prog 14 #[.int .i64 n, .int .i64 k, v] w (RetQE w 0 1) := by
  obtain ⟨shp, ahp, nhp, chp, Ahp, Nhp, Chp, rfl⟩ := hp.shape
  have hs := Below.refl w.heap.size w
  go_enter Tryz.func14, Tryz.ntmps14
  have q1 : ¬ (n < 0) := (by omega)
  have q1d : (n < 0) = False := eq_false (by omega)
  have q2 : 64 < n := (by omega)
  have q2d : ((64 : Int) < n) = True := eq_true (by omega)
  go_wp2_with fail
  refine Calls.abs ?_
  intro w1 hW
  have hG : Gr [] w w1 := by rw [hW]; exact (Gr.refl _ _).alloc.alloc
  have hbw : Below w.heap.size w w1 := hG.below0 hs.size
  have hk : KeepD w w1 := hG.keep True.intro
  have sz_w1 : w.heap.size ≤ w.heap.size := hs.size
  have Blp : Bx w1 (w.heap.size) 36 #[.bool shp, .slice ahp nhp chp, .slice Ahp Nhp Chp] := by rw [hW]; exact ((Bx.new0 _ _ _).alloc _)
  have Blk : Bx w1 (w.heap.size + 1) 36 #[.bool false, .slice none 0 0, .slice none 0 0] := by rw [hW]; exact (Bx.new0 _ _ _)
  replace hs := hs.trans hbw
  replace hp := hp.keep hk
  clear hW hG hk hbw
  have hz_w1 : w.heap.size + 1 < w1.heap.size := Blk.lt
  with_reducible refine (r_zero _).mono ?_
  rintro e w2 ⟨_, rfl, h3, hb⟩
  obtain ⟨sh3, ah3, nh3, ch3, Ah3, Nh3, Ch3, rfl⟩ := h3.shape
  replace hs := bStep hs hb
  replace Blp := Blp.mono hb
  replace Blk := Blk.mono hb
  replace hp := hp.mono hb
  clear hb
  have ck_0 : w2.cell? ⟨w.heap.size + 1, 0, none⟩ = some (.bool false) := Blk.at 0 rfl
  have ck_1 : w2.cell? ⟨w.heap.size + 1, 1, none⟩ = some (.slice none 0 0) := Blk.at 1 rfl
  have ck_2 : w2.cell? ⟨w.heap.size + 1, 2, none⟩ = some (.slice none 0 0) := Blk.at 2 rfl
  have fk := Blk.free
  have Lk : w.heap.size + 1 < w2.heap.size := Blk.lt
  go_wp2
  clear ck_0 ck_1 ck_2 fk Lk
  refine bodyPost.abs ?_
  intro w3 hW
  have hG : Gr [w.heap.size + 1] w2 w3 := by rw [hW]; exact (Gr.refl _ _).set.set.set
  have hsz := hs.size
  have lk := Blk.lt
  have hbw : Below w.heap.size w2 w3 := hG.below1 hs.size (by first | omega | assumption)
  have hk : KeepD w2 w3 := hG.keep ⟨⟨_, Blk.ty, by decide⟩, True.intro⟩
  have Bl1k : Bx w3 (w.heap.size + 1) 36 #[.bool sh3, .slice ah3 nh3 ch3, .slice Ah3 Nh3 Ch3] := by rw [hW]; exact Blk.set3
  replace hs := hs.trans hbw
  replace Blp := hG.bx Blp (notMem1 (by omega))
  replace Blk := Bl1k
  clear Bl1k
  replace hp := hp.keep hk
  replace h3 := h3.keep hk
  clear hW hG hk hbw hsz lk
  have ck_0 : w3.cell? ⟨w.heap.size + 1, 0, none⟩ = some (.bool sh3) := Blk.at 0 rfl
  have ck_1 : w3.cell? ⟨w.heap.size + 1, 1, none⟩ = some (.slice ah3 nh3 ch3) := Blk.at 1 rfl
  have ck_2 : w3.cell? ⟨w.heap.size + 1, 2, none⟩ = some (.slice Ah3 Nh3 Ch3) := Blk.at 2 rfl
  exact bodyPost_ret (v := .tuple #[.agg #[.bool sh3, .slice ah3 nh3 ch3, .slice Ah3 Nh3 Ch3], .int .i64 1]) (by simp [results, Tryz.results14, go_sem, ck_0, ck_1, ck_2]) rfl ⟨_, rfl, h3, hs⟩

set_option maxRecDepth 100000 in
set_option maxHeartbeats 8000000 in
theorem r8_Tail_bad3 {v : Value} {p : Rat} {n k : Int} (w : World) (hp : RV w v p) (sp : SzQ 1 p) (hn : 0 ≤ n) (hn2 : n ≤ 64) (hc : ¬ (0 ≤ p ∧ p ≤ 1)) :
    Calls Tryz.prog 14 #[.int .i64 n, .int .i64 k, v] w (RetQE w 0 1) := by
  obtain ⟨shp, ahp, nhp, chp, Ahp, Nhp, Chp, rfl⟩ := hp.shape
  have hs := Below.refl w.heap.size w
  have HP := Lib.hid hc
  clear hc
  go_enter Tryz.func14, Tryz.ntmps14
  have q1 : ¬ (n < 0) := (by omega)
  have q1d : (n < 0) = False := eq_false (by omega)
  have q2 : ¬ (64 < n) := (by omega)
  have q2d : ((64 : Int) < n) = False := eq_false (by omega)
  go_wp2_with fail
  refine Calls.abs ?_
  intro w1 hW
  have hG : Gr [] w w1 := by rw [hW]; exact (Gr.refl _ _).alloc.alloc
  have hbw : Below w.heap.size w w1 := hG.below0 hs.size
  have hk : KeepD w w1 := hG.keep True.intro
  have sz_w1 : w.heap.size ≤ w.heap.size := hs.size
  have Blp : Bx w1 (w.heap.size) 36 #[.bool shp, .slice ahp nhp chp, .slice Ahp Nhp Chp] := by rw [hW]; exact ((Bx.new0 _ _ _).alloc _)
  have Blk : Bx w1 (w.heap.size + 1) 36 #[.bool false, .slice none 0 0, .slice none 0 0] := by rw [hW]; exact (Bx.new0 _ _ _)
  replace hs := hs.trans hbw
  replace hp := hp.keep hk
  clear hW hG hk hbw
  have hz_w1 : w.heap.size + 1 < w1.heap.size := Blk.lt
  with_reducible refine (r8_Chance _ _ _ hp (SzQ.mid sp) rfl).mono ?_
  rintro e w2 ⟨rfl, hb⟩
  replace hs := bStep hs hb
  replace Blp := Blp.mono hb
  replace Blk := Blk.mono hb
  replace hp := hp.mono hb
  clear hb
  obtain ⟨b3, Hb3⟩ : ∃ b : Bool, b = decide (0 ≤ p ∧ p ≤ 1) := ⟨_, rfl⟩
  rw [← Hb3]
  replace Hb3 := Lib.hid Hb3
  have q4 : ¬ (0 ≤ p ∧ p ≤ 1) := HP.out
  obtain rfl : b3 = false := by rw [Hb3.out]; exact decide_eq_false q4
  have q4H := Lib.hid q4
  clear q4
  go_wp2_with fail
  with_reducible refine (r_zero _).mono ?_
  rintro e w3 ⟨_, rfl, h5, hb⟩
  obtain ⟨sh5, ah5, nh5, ch5, Ah5, Nh5, Ch5, rfl⟩ := h5.shape
  replace hs := bStep hs hb
  replace Blp := Blp.mono hb
  replace Blk := Blk.mono hb
  replace hp := hp.mono hb
  clear hb
  have ck_0 : w3.cell? ⟨w.heap.size + 1, 0, none⟩ = some (.bool false) := Blk.at 0 rfl
  have ck_1 : w3.cell? ⟨w.heap.size + 1, 1, none⟩ = some (.slice none 0 0) := Blk.at 1 rfl
  have ck_2 : w3.cell? ⟨w.heap.size + 1, 2, none⟩ = some (.slice none 0 0) := Blk.at 2 rfl
  have fk := Blk.free
  have Lk : w.heap.size + 1 < w3.heap.size := Blk.lt
  go_wp2
  clear ck_0 ck_1 ck_2 fk Lk
  refine bodyPost.abs ?_
  intro w4 hW
  have hG : Gr [w.heap.size + 1] w3 w4 := by rw [hW]; exact (Gr.refl _ _).set.set.set
  have hsz := hs.size
  have lk := Blk.lt
  have hbw : Below w.heap.size w3 w4 := hG.below1 hs.size (by first | omega | assumption)
  have hk : KeepD w3 w4 := hG.keep ⟨⟨_, Blk.ty, by decide⟩, True.intro⟩
  have Bl1k : Bx w4 (w.heap.size + 1) 36 #[.bool sh5, .slice ah5 nh5 ch5, .slice Ah5 Nh5 Ch5] := by rw [hW]; exact Blk.set3
  replace hs := hs.trans hbw
  replace Blp := hG.bx Blp (notMem1 (by omega))
  replace Blk := Bl1k
  clear Bl1k
  replace hp := hp.keep hk
  replace h5 := h5.keep hk
  clear hW hG hk hbw hsz lk
  have ck_0 : w4.cell? ⟨w.heap.size + 1, 0, none⟩ = some (.bool sh5) := Blk.at 0 rfl
  have ck_1 : w4.cell? ⟨w.heap.size + 1, 1, none⟩ = some (.slice ah5 nh5 ch5) := Blk.at 1 rfl
  have ck_2 : w4.cell? ⟨w.heap.size + 1, 2, none⟩ = some (.slice Ah5 Nh5 Ch5) := Blk.at 2 rfl
  exact bodyPost_ret (v := .tuple #[.agg #[.bool sh5, .slice ah5 nh5 ch5, .slice Ah5 Nh5 Ch5], .int .i64 1]) (by simp [results, Tryz.results14, go_sem, ck_0, ck_1, ck_2]) rfl ⟨_, rfl, h5, hs⟩

end Go.Proofs.YtmnipggjjcmjkaaGreat
