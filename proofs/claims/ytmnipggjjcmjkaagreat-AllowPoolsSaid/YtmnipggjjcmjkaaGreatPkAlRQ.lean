/-
  One event more, element by element, as the reference reckons it. No function of the program is walked here.
-/
import Derived.Test.YtmnipggjjcmjkaaGreatPkTailQ
import Derived.Test.YtmnipggjjcmjkaaGreatPkVecQ
import Derived.Test.YtmnipggjjcmjkaaGreatPkAlBQ
set_option linter.unusedSimpArgs false
set_option linter.unusedVariables false
namespace Go.Proofs.YtmnipggjjcmjkaaGreat
open Go.RowKit Dg

end Go.Proofs.YtmnipggjjcmjkaaGreat
/-
  Reference 08: rest, Chance, event, chances, from, tail, Tail, Rank, Coupons.
-/
namespace Go.Proofs.YtmnipggjjcmjkaaGreat
open Go.RowKit Dg
attribute [local go_sem ↓] Go.wp_at_zero Go.wp_at_succ

theorem r_one (w : World) : Calls Tryz.prog 68 #[.int .i64 1] w (RetQ w 1) := r_Int_calls 1 w (by decide) (by decide)
theorem r_zero (w : World) : Calls Tryz.prog 68 #[.int .i64 0] w (RetQ w 0) := r_Int_calls 0 w (by decide) (by decide)
theorem rR_info : (Tryz.prog.info? 36).map (fun i => (i.zero, i.size, i.bytes)) = some (some (.agg #[.bool false, .slice none 0 0, .slice none 0 0]), 3, 56) := by kernel_rfl


set_option maxRecDepth 100000 in
set_option maxHeartbeats 4000000 in
theorem r8_Chance (vx : Value) (x : Rat) (w : World) (hx : RV w vx x) (sx : Mid x) {rB : Bool} (hRB : rB = decide (0 ≤ x ∧ x ≤ 1)) :
    Calls Tryz.prog 67 #[vx] w (RetV w (.bool rB)) := by
  obtain ⟨shx, ahx, nhx, chx, Ahx, Nhx, Chx, rfl⟩ := hx.shape
  have hs := Below.refl w.heap.size w
  have HRB := Lib.hid hRB
  clear hRB
  go_enter Tryz.func67, Tryz.ntmps67
  go_upto_region 1 with fail
  refine Code.abs ?_
  intro w1 hW
  have hG : Gr [] w w1 := by rw [hW]; exact (Gr.refl _ _).alloc
  have hbw : Below w.heap.size w w1 := hG.below0 hs.size
  have hk : KeepD w w1 := hG.keep True.intro
  have sz_w1 : w.heap.size ≤ w.heap.size := hs.size
  have Blp : Bx w1 (w.heap.size) 36 #[.bool shx, .slice ahx nhx chx, .slice Ahx Nhx Chx] := by rw [hW]; exact (Bx.new0 _ _ _)
  replace hs := hs.trans hbw
  replace hx := hx.keep hk
  clear hW hG hk hbw
  have hz_w1 : w.heap.size < w1.heap.size := Blp.lt
  obtain ⟨sg1, Hsg1⟩ : ∃ s : Int, s = sgQ x := ⟨_, rfl⟩
  replace Hsg1 := Lib.hid Hsg1
  by_cases q2 : 0 ≤ x
  · have q2_ : 0 ≤ sg1 := by have h := s1_ge x; rw [← Hsg1.out] at h; exact h.2 q2
    have q2H := Lib.hid q2
    clear q2
    have q2d : decide (0 ≤ sg1) = true := decide_eq_true q2_
    obtain ⟨sg4, Hsg4⟩ : ∃ s : Int, s = sgQ (x - 1) := ⟨_, rfl⟩
    replace Hsg4 := Lib.hid Hsg4
    refine U_region (S := fun w' => w'.cell? ⟨w.heap.size, 0, none⟩ = some (.bool shx) ∧ w'.cell? ⟨w.heap.size, 1, none⟩ = some (.slice ahx nhx chx) ∧ w'.cell? ⟨w.heap.size, 2, none⟩ = some (.slice Ahx Nhx Chx)) (by kernel_rfl) 10 ?_
    refine AnyU.abs ?_
    intro w2 hW
    have hb : Below w1.heap.size w1 w2 := by rw [hW]; exact bDrew _
    replace hs := bStep hs hb
    replace Blp := Blp.mono hb
    replace hx := hx.mono hb
    clear hb hW
    have cp_0 : w2.cell? ⟨w.heap.size, 0, none⟩ = some (.bool shx) := Blp.at 0 rfl
    have cp_1 : w2.cell? ⟨w.heap.size, 1, none⟩ = some (.slice ahx nhx chx) := Blp.at 1 rfl
    have cp_2 : w2.cell? ⟨w.heap.size, 2, none⟩ = some (.slice Ahx Nhx Chx) := Blp.at 2 rfl
    have hH := (show w2.cell? ⟨w.heap.size, 0, none⟩ = some (.bool shx) ∧ w2.cell? ⟨w.heap.size, 1, none⟩ = some (.slice ahx nhx chx) ∧ w2.cell? ⟨w.heap.size, 2, none⟩ = some (.slice Ahx Nhx Chx) from ⟨cp_0, cp_1, cp_2⟩)
    refine U_takeN (i := 0) (d := 3) (v := ?_) rfl rfl rfl (by kernel_rfl) (by kernel_rfl) (by kernel_rfl) (fun _ _ _ h => h) (Or.inl ⟨by rfl, ?_⟩) hH ?_
    rotate_left
    · intro w hSw
      try dsimp only at hSw
      go_simp
      try with_reducible rfl
    simp only [LY]
    clear hH
    refine U_one (i := 1) (by kernel_rfl) rfl (fun K hK => ?_)
    go_simp
    (with_reducible refine (rSign hx).mono ?_)
    rintro e w3 ⟨rfl, hb⟩
    replace hs := bStep hs hb
    replace Blp := Blp.mono hb
    replace hx := hx.mono hb
    replace cp_0 := cellK cp_0 hb
    replace cp_1 := cellK cp_1 hb
    replace cp_2 := cellK cp_2 hb
    clear hb
    rw [← Hsg1.out]
    try go_wp2_with fail
    refine hK.out _ _ ⟨cp_0, cp_1, cp_2⟩ (fun hH => ?_)
    clear hK K
    try simp only [LY]
    refine U_takeN (i := 2) (d := 5) (v := ?_) rfl rfl rfl (by kernel_rfl) (by kernel_rfl) (by kernel_rfl) (fun _ _ _ h => h) (Or.inl ⟨by rfl, ?_⟩) hH ?_
    rotate_left
    · intro w hSw
      try dsimp only at hSw
      go_simp
      try with_reducible rfl
    simp only [LY]
    refine U_takeN (i := 3) (d := 6) (v := ?_) rfl rfl rfl (by kernel_rfl) (by kernel_rfl) (by kernel_rfl) (fun _ _ _ h => h) (Or.inl ⟨by rfl, ?_⟩) hH ?_
    rotate_left
    · intro w hSw
      try dsimp only at hSw
      go_simp
      try with_reducible rfl
    simp only [LY]
    refine U_takeN (i := 4) (d := 7) (v := ?_) rfl rfl rfl (by kernel_rfl) (by kernel_rfl) (by kernel_rfl) (fun _ _ _ h => h) (Or.inl ⟨by rfl, ?_⟩) hH ?_
    rotate_left
    · intro w hSw
      try dsimp only at hSw
      go_simp
      try with_reducible rfl
    simp only [LY]
    clear hH
    refine U_one (i := 5) (by kernel_rfl) rfl (fun K hK => ?_)
    go_simp
    (with_reducible refine (r_one _).mono ?_)
    rintro e w4 ⟨_, rfl, h3, hb⟩
    obtain ⟨sh3, ah3, nh3, ch3, Ah3, Nh3, Ch3, rfl⟩ := h3.shape
    replace hs := bStep hs hb
    replace Blp := Blp.mono hb
    replace hx := hx.mono hb
    replace cp_0 := cellK cp_0 hb
    replace cp_1 := cellK cp_1 hb
    replace cp_2 := cellK cp_2 hb
    clear hb
    try go_wp2_with fail
    refine hK.out _ _ ⟨cp_0, cp_1, cp_2⟩ (fun hH => ?_)
    clear hK K
    try simp only [LY]
    clear hH
    refine U_one (i := 6) (by kernel_rfl) rfl (fun K hK => ?_)
    go_simp
    (with_reducible refine (rCmp hx h3 (SzQ.fit sx) (SzQ.fit szQ_one)).mono ?_)
    rintro e w5 ⟨rfl, hb⟩
    replace hs := bStep hs hb
    replace Blp := Blp.mono hb
    replace hx := hx.mono hb
    replace h3 := h3.mono hb
    replace cp_0 := cellK cp_0 hb
    replace cp_1 := cellK cp_1 hb
    replace cp_2 := cellK cp_2 hb
    clear hb
    rw [← Hsg4.out]
    try go_wp2_with fail
    refine hK.out _ _ ⟨cp_0, cp_1, cp_2⟩ (fun hH => ?_)
    clear hK K
    try simp only [LY]
    refine U_takeN (i := 7) (d := 10) (v := ?_) rfl rfl rfl (by kernel_rfl) (by kernel_rfl) (by kernel_rfl) (fun _ _ _ h => h) (Or.inl ⟨by rfl, ?_⟩) hH ?_
    rotate_left
    · intro w hSw
      try dsimp only at hSw
      go_simp
      try with_reducible rfl
    simp only [LY]
    refine U_takeN (i := 8) (d := 11) (v := ?_) rfl rfl rfl (by kernel_rfl) (by kernel_rfl) (by kernel_rfl) (fun _ _ _ h => h) (Or.inl ⟨by rfl, ?_⟩) hH ?_
    rotate_left
    · intro w hSw
      try dsimp only at hSw
      go_simp
      try with_reducible rfl
    simp only [LY]
    refine U_takeN (i := 9) (d := 2) (v := ?_) rfl rfl rfl (by kernel_rfl) (by kernel_rfl) (by kernel_rfl) (fun _ _ _ h => h) (Or.inl ⟨by rfl, ?_⟩) hH ?_
    rotate_left
    · intro w hSw
      try dsimp only at hSw
      go_simp
      try with_reducible rfl
    simp only [LY]
    clear hH
    refine U_endN (by kernel_rfl) ?_
    clear cp_0 cp_1 cp_2
    by_cases q5 : x ≤ 1
    · have q5_ : sg4 ≤ 0 := by have h := sq_le x 1; rw [← Hsg4.out] at h; exact h.2 q5
      have q5H := Lib.hid q5
      clear q5
      have q5d : decide (sg4 ≤ 0) = true := decide_eq_true q5_
      try simp only [q5d]
      go_wp2
      go_ret
      exact ⟨(by rw [HRB.out, decide_eq_true (show 0 ≤ x ∧ x ≤ 1 from by have p0 : 0 ≤ x := q2H.out; have p1 : x ≤ 1 := q5H.out; first | assumption | exact ⟨by assumption, by assumption⟩ | exact ⟨⟨by assumption, by assumption⟩, ⟨by assumption, by assumption⟩⟩)]; rfl), hs⟩
    · have q5_ : ¬ (sg4 ≤ 0) := by have h := sq_le x 1; rw [← Hsg4.out] at h; exact fun h1 => q5 (h.1 h1)
      have q5H := Lib.hid q5
      clear q5
      have q5d : decide (sg4 ≤ 0) = false := decide_eq_false q5_
      try simp only [q5d]
      go_wp2
      go_ret
      exact ⟨(by rw [HRB.out, decide_eq_false (show ¬ (0 ≤ x ∧ x ≤ 1) from by have p0 : 0 ≤ x := q2H.out; have p1 : ¬ (x ≤ 1) := q5H.out; first | assumption | exact fun h => absurd h.1 (by assumption) | exact fun h => absurd h.2 (by assumption))]; rfl), hs⟩
  · have q2_ : ¬ (0 ≤ sg1) := by have h := s1_ge x; rw [← Hsg1.out] at h; exact fun h1 => q2 (h.1 h1)
    have q2H := Lib.hid q2
    clear q2
    have q2d : decide (0 ≤ sg1) = false := decide_eq_false q2_
    refine U_region (S := fun w' => w'.cell? ⟨w.heap.size, 0, none⟩ = some (.bool shx) ∧ w'.cell? ⟨w.heap.size, 1, none⟩ = some (.slice ahx nhx chx) ∧ w'.cell? ⟨w.heap.size, 2, none⟩ = some (.slice Ahx Nhx Chx)) (by kernel_rfl) 10 ?_
    refine AnyU.abs ?_
    intro w2 hW
    have hb : Below w1.heap.size w1 w2 := by rw [hW]; exact bDrew _
    replace hs := bStep hs hb
    replace Blp := Blp.mono hb
    replace hx := hx.mono hb
    clear hb hW
    have cp_0 : w2.cell? ⟨w.heap.size, 0, none⟩ = some (.bool shx) := Blp.at 0 rfl
    have cp_1 : w2.cell? ⟨w.heap.size, 1, none⟩ = some (.slice ahx nhx chx) := Blp.at 1 rfl
    have cp_2 : w2.cell? ⟨w.heap.size, 2, none⟩ = some (.slice Ahx Nhx Chx) := Blp.at 2 rfl
    have hH := (show w2.cell? ⟨w.heap.size, 0, none⟩ = some (.bool shx) ∧ w2.cell? ⟨w.heap.size, 1, none⟩ = some (.slice ahx nhx chx) ∧ w2.cell? ⟨w.heap.size, 2, none⟩ = some (.slice Ahx Nhx Chx) from ⟨cp_0, cp_1, cp_2⟩)
    refine U_takeN (i := 0) (d := 3) (v := ?_) rfl rfl rfl (by kernel_rfl) (by kernel_rfl) (by kernel_rfl) (fun _ _ _ h => h) (Or.inl ⟨by rfl, ?_⟩) hH ?_
    rotate_left
    · intro w hSw
      try dsimp only at hSw
      go_simp
      try with_reducible rfl
    simp only [LY]
    clear hH
    refine U_one (i := 1) (by kernel_rfl) rfl (fun K hK => ?_)
    go_simp
    (with_reducible refine (rSign hx).mono ?_)
    rintro e w3 ⟨rfl, hb⟩
    replace hs := bStep hs hb
    replace Blp := Blp.mono hb
    replace hx := hx.mono hb
    replace cp_0 := cellK cp_0 hb
    replace cp_1 := cellK cp_1 hb
    replace cp_2 := cellK cp_2 hb
    clear hb
    rw [← Hsg1.out]
    try go_wp2_with fail
    refine hK.out _ _ ⟨cp_0, cp_1, cp_2⟩ (fun hH => ?_)
    clear hK K
    try simp only [LY]
    refine U_takeN (i := 2) (d := 5) (v := ?_) rfl rfl rfl (by kernel_rfl) (by kernel_rfl) (by kernel_rfl) (fun _ _ _ h => h) (Or.inl ⟨by rfl, ?_⟩) hH ?_
    rotate_left
    · intro w hSw
      try dsimp only at hSw
      go_simp
      try with_reducible rfl
    simp only [LY]
    refine U_takeN (i := 3) (d := 6) (v := ?_) rfl rfl rfl (by kernel_rfl) (by kernel_rfl) (by kernel_rfl) (fun _ _ _ h => h) (Or.inl ⟨by rfl, ?_⟩) hH ?_
    rotate_left
    · intro w hSw
      try dsimp only at hSw
      go_simp
      try with_reducible rfl
    simp only [LY]
    refine U_takeN (i := 4) (d := 7) (v := undef) rfl rfl rfl (by kernel_rfl) (by kernel_rfl) (by kernel_rfl) (fun _ _ _ h => h) (Or.inr ⟨by rfl, rfl⟩) hH ?_
    simp only [LY]
    clear hH
    refine U_one (i := 5) (by kernel_rfl) rfl (fun K hK => ?_)
    go_simp
    refine hK.out _ _ ⟨cp_0, cp_1, cp_2⟩ (fun hH => ?_)
    clear hK K
    try simp only [LY]
    clear hH
    refine U_one (i := 6) (by kernel_rfl) rfl (fun K hK => ?_)
    go_simp
    refine hK.out _ _ ⟨cp_0, cp_1, cp_2⟩ (fun hH => ?_)
    clear hK K
    try simp only [LY]
    refine U_takeN (i := 7) (d := 10) (v := undef) rfl rfl rfl (by kernel_rfl) (by kernel_rfl) (by kernel_rfl) (fun _ _ _ h => h) (Or.inr ⟨by rfl, rfl⟩) hH ?_
    simp only [LY]
    refine U_takeN (i := 8) (d := 11) (v := ?_) rfl rfl rfl (by kernel_rfl) (by kernel_rfl) (by kernel_rfl) (fun _ _ _ h => h) (Or.inl ⟨by rfl, ?_⟩) hH ?_
    rotate_left
    · intro w hSw
      try dsimp only at hSw
      go_simp
      try with_reducible rfl
    simp only [LY]
    refine U_takeN (i := 9) (d := 2) (v := ?_) rfl rfl rfl (by kernel_rfl) (by kernel_rfl) (by kernel_rfl) (fun _ _ _ h => h) (Or.inl ⟨by rfl, ?_⟩) hH ?_
    rotate_left
    · intro w hSw
      try dsimp only at hSw
      go_simp
      try with_reducible rfl
    simp only [LY]
    clear hH
    refine U_endN (by kernel_rfl) ?_
    clear cp_0 cp_1 cp_2
    go_wp2
    go_ret
    exact ⟨(by rw [HRB.out, decide_eq_false (show ¬ (0 ≤ x ∧ x ≤ 1) from by have p0 : ¬ (0 ≤ x) := q2H.out; first | assumption | exact fun h => absurd h.1 (by assumption) | exact fun h => absurd h.2 (by assumption))]; rfl), hs⟩









end Go.Proofs.YtmnipggjjcmjkaaGreat
