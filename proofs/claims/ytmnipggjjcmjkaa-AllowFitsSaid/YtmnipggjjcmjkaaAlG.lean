/-
  allow: a class's check, what it proves, Detected.
-/
import Derived.Test.YtmnipggjjcmjkaaAlB
import Derived.Test.YtmnipggjjcmjkaaPlainBis
import Derived.Test.YtmnipggjjcmjkaaRangeP
set_option linter.unusedSimpArgs false
set_option linter.unusedVariables false
namespace Go.Proofs.Ytmnipggjjcmjkaa
open Go.RowKit Dg
attribute [local go_sem ↓] Go.wp_at_zero Go.wp_at_succ

set_option maxRecDepth 100000 in
set_option maxHeartbeats 4000000 in
theorem cl_check {n f : Nat} (w : World) (h1 : 1 ≤ n) (h2 : n ≤ 64) (h3 : f ≤ n) : Calls Try.prog 51 #[.agg #[.int .i64 n, .int .i64 f]] w (RetV w (.int .i64 0)) := by
  have hs := Below.refl w.heap.size w
  go_enter Try.func51, Try.ntmps51
  have q1 : ¬ (n < 1) := (by omega)
  have q1d : ((n : Int) < 1) = False := eq_false (by omega)
  have q2 : ¬ (64 < n) := (by omega)
  have q2d : ((64 : Int) < (n : Int)) = False := eq_false (by omega)
  have q3 : ¬ (f < 0) := (by omega)
  have q3d : ((f : Int) < 0) = False := eq_false (by omega)
  have q4 : ¬ (n < f) := (by omega)
  have q4d : ((n : Int) < (f : Int)) = False := eq_false (by omega)
  go_wp2
  refine bodyPost.abs ?_
  intro w1 hW
  have hG : Gr [] w w1 := by rw [hW]; exact (Gr.refl _ _).alloc
  have hbw : Below w.heap.size w w1 := hG.below0 hs.size
  have hk : KeepD w w1 := hG.keep True.intro
  have sz_w1 : w.heap.size ≤ w.heap.size := hs.size
  have Blc : Bx w1 (w.heap.size) 48 #[.int .i64 ((n : Int)), .int .i64 ((f : Int))] := by rw [hW]; exact (Bx.new0 _ _ _)
  replace hs := hs.trans hbw
  clear hW hG hk hbw
  have hz_w1 : w.heap.size < w1.heap.size := Blc.lt
  go_ret
  exact ⟨rfl, hs⟩

set_option maxRecDepth 100000 in
set_option maxHeartbeats 4000000 in
theorem cl_proves {v v' : Value} {p u : Rat} {n f : Nat} (w : World) (h2 : n ≤ 64) (hp : PV w v p) (sp : SzQ 1 p) (p0 : 0 ≤ p) (p1 : p ≤ 1) (hu : PV w v' u) (su : SzQ 1 u) {b : Bool} (hq : prvQ n f u p = b) :
    Calls Try.prog 56 #[.agg #[.int .i64 n, .int .i64 f], v, v'] w (RetV w (.bool b)) := by
  obtain ⟨shp, ahp, nhp, chp, Ahp, Nhp, Chp, rfl⟩ := hp.shape
  obtain ⟨shu, ahu, nhu, chu, Ahu, Nhu, Chu, rfl⟩ := hu.shape
  have hs := Below.refl w.heap.size w
  have HP := Lib.hid (And.intro p0 p1)
  have HT := Lib.hid ((tl_sz p0 p1 sp n f).mono (show n + 1 ≤ 100 by omega))
  have HQ := Lib.hid hq
  clear p0 p1 hq
  go_enter Try.func56, Try.ntmps56
  go_upto_region 1 with fail
  refine Code.abs ?_
  intro w1 hW
  have hG : Gr [] w w1 := by rw [hW]; exact (Gr.refl _ _).alloc.alloc.alloc
  have hbw : Below w.heap.size w w1 := hG.below0 hs.size
  have hk : KeepD w w1 := hG.keep True.intro
  have sz_w1 : w.heap.size ≤ w.heap.size := hs.size
  have Blc : Bx w1 (w.heap.size) 48 #[.int .i64 ((n : Int)), .int .i64 ((f : Int))] := by rw [hW]; exact (((Bx.new0 _ _ _).alloc _).alloc _)
  have Blp : Bx w1 (w.heap.size + 1) 26 #[.bool shp, .slice ahp nhp chp, .slice Ahp Nhp Chp] := by rw [hW]; exact ((Bx.new0 _ _ _).alloc _)
  have Blconfidence : Bx w1 (w.heap.size + 1 + 1) 26 #[.bool shu, .slice ahu nhu chu, .slice Ahu Nhu Chu] := by rw [hW]; exact (Bx.new0 _ _ _)
  replace hs := hs.trans hbw
  replace hp := hp.keep hk
  replace hu := hu.keep hk
  clear hW hG hk hbw
  have hz_w1 : w.heap.size + 1 + 1 < w1.heap.size := Blconfidence.lt
  obtain ⟨sg3, Hsg3⟩ : ∃ s : Int, s = sgQ ((tlQ p n f) - (1 - u)) := ⟨_, rfl⟩
  replace Hsg3 := Lib.hid Hsg3
  refine U_region (S := fun w' => w'.cell? ⟨w.heap.size, 0, none⟩ = some (.int .i64 ((n : Int))) ∧ w'.cell? ⟨w.heap.size, 1, none⟩ = some (.int .i64 ((f : Int))) ∧ w'.cell? ⟨w.heap.size + 1, 0, none⟩ = some (.bool shp) ∧ w'.cell? ⟨w.heap.size + 1, 1, none⟩ = some (.slice ahp nhp chp) ∧ w'.cell? ⟨w.heap.size + 1, 2, none⟩ = some (.slice Ahp Nhp Chp) ∧ w'.cell? ⟨w.heap.size + 1 + 1, 0, none⟩ = some (.bool shu) ∧ w'.cell? ⟨w.heap.size + 1 + 1, 1, none⟩ = some (.slice ahu nhu chu) ∧ w'.cell? ⟨w.heap.size + 1 + 1, 2, none⟩ = some (.slice Ahu Nhu Chu)) (by kernel_rfl) 11 ?_
  refine AnyU.abs ?_
  intro w2 hW
  have hb : Below w1.heap.size w1 w2 := by rw [hW]; exact bDrew _
  replace hs := bStep hs hb
  replace Blc := Blc.mono hb
  replace Blp := Blp.mono hb
  replace Blconfidence := Blconfidence.mono hb
  replace hp := hp.mono hb
  replace hu := hu.mono hb
  clear hb hW
  have cc_0 : w2.cell? ⟨w.heap.size, 0, none⟩ = some (.int .i64 ((n : Int))) := Blc.at 0 rfl
  have cc_1 : w2.cell? ⟨w.heap.size, 1, none⟩ = some (.int .i64 ((f : Int))) := Blc.at 1 rfl
  have cp_0 : w2.cell? ⟨w.heap.size + 1, 0, none⟩ = some (.bool shp) := Blp.at 0 rfl
  have cp_1 : w2.cell? ⟨w.heap.size + 1, 1, none⟩ = some (.slice ahp nhp chp) := Blp.at 1 rfl
  have cp_2 : w2.cell? ⟨w.heap.size + 1, 2, none⟩ = some (.slice Ahp Nhp Chp) := Blp.at 2 rfl
  have cconfidence_0 : w2.cell? ⟨w.heap.size + 1 + 1, 0, none⟩ = some (.bool shu) := Blconfidence.at 0 rfl
  have cconfidence_1 : w2.cell? ⟨w.heap.size + 1 + 1, 1, none⟩ = some (.slice ahu nhu chu) := Blconfidence.at 1 rfl
  have cconfidence_2 : w2.cell? ⟨w.heap.size + 1 + 1, 2, none⟩ = some (.slice Ahu Nhu Chu) := Blconfidence.at 2 rfl
  have hH := (show w2.cell? ⟨w.heap.size, 0, none⟩ = some (.int .i64 ((n : Int))) ∧ w2.cell? ⟨w.heap.size, 1, none⟩ = some (.int .i64 ((f : Int))) ∧ w2.cell? ⟨w.heap.size + 1, 0, none⟩ = some (.bool shp) ∧ w2.cell? ⟨w.heap.size + 1, 1, none⟩ = some (.slice ahp nhp chp) ∧ w2.cell? ⟨w.heap.size + 1, 2, none⟩ = some (.slice Ahp Nhp Chp) ∧ w2.cell? ⟨w.heap.size + 1 + 1, 0, none⟩ = some (.bool shu) ∧ w2.cell? ⟨w.heap.size + 1 + 1, 1, none⟩ = some (.slice ahu nhu chu) ∧ w2.cell? ⟨w.heap.size + 1 + 1, 2, none⟩ = some (.slice Ahu Nhu Chu) from ⟨cc_0, cc_1, cp_0, cp_1, cp_2, cconfidence_0, cconfidence_1, cconfidence_2⟩)
  refine U_takeN (i := 0) (d := 7) (v := ?_) rfl rfl rfl (by kernel_rfl) (by kernel_rfl) (by kernel_rfl) (fun _ _ _ h => h) (Or.inl ⟨by rfl, ?_⟩) hH ?_
  rotate_left
  · intro w hSw
    try dsimp only at hSw
    go_simp
    try with_reducible rfl
  simp only [LY]
  refine U_takeN (i := 1) (d := 8) (v := ?_) rfl rfl rfl (by kernel_rfl) (by kernel_rfl) (by kernel_rfl) (fun _ _ _ h => h) (Or.inl ⟨by rfl, ?_⟩) hH ?_
  rotate_left
  · intro w hSw
    try dsimp only at hSw
    go_simp
    try with_reducible rfl
  simp only [LY]
  refine U_takeN (i := 2) (d := 9) (v := ?_) rfl rfl rfl (by kernel_rfl) (by kernel_rfl) (by kernel_rfl) (fun _ _ _ h => h) (Or.inl ⟨by rfl, ?_⟩) hH ?_
  rotate_left
  · intro w hSw
    try dsimp only at hSw
    go_simp
    try with_reducible rfl
  simp only [LY]
  refine U_takeN (i := 3) (d := 10) (v := ?_) rfl rfl rfl (by kernel_rfl) (by kernel_rfl) (by kernel_rfl) (fun _ _ _ h => h) (Or.inl ⟨by rfl, ?_⟩) hH ?_
  rotate_left
  · intro w hSw
    try dsimp only at hSw
    go_simp
    try with_reducible rfl
  simp only [LY]
  refine U_takeN (i := 4) (d := 11) (v := ?_) rfl rfl rfl (by kernel_rfl) (by kernel_rfl) (by kernel_rfl) (fun _ _ _ h => h) (Or.inl ⟨by rfl, ?_⟩) hH ?_
  rotate_left
  · intro w hSw
    try dsimp only at hSw
    go_simp
    try with_reducible rfl
  simp only [LY]
  refine U_takeN (i := 6) (d := 13) (v := ?_) rfl rfl rfl (by kernel_rfl) (by kernel_rfl) (by kernel_rfl) (fun _ _ _ h => h) (Or.inl ⟨by rfl, ?_⟩) hH ?_
  rotate_left
  · intro w hSw
    try dsimp only at hSw
    go_simp
    try with_reducible rfl
  simp only [LY]
  clear hH
  refine U_one (i := 5) (by kernel_rfl) rfl (fun K hK => ?_)
  go_simp
  (with_reducible refine (al_tail (n := n) (k := (f : Int)) _ hp sp HP.out.1 HP.out.2 (by omega) (tailQ_nat n f p)).mono ?_)
  rintro e w3 ⟨_, rfl, h1, hb⟩
  obtain ⟨sh1, ah1, nh1, ch1, Ah1, Nh1, Ch1, rfl⟩ := h1.shape
  replace hs := bStep hs hb
  replace Blc := Blc.mono hb
  replace Blp := Blp.mono hb
  replace Blconfidence := Blconfidence.mono hb
  replace hp := hp.mono hb
  replace hu := hu.mono hb
  replace cc_0 := cellK cc_0 hb
  replace cc_1 := cellK cc_1 hb
  replace cp_0 := cellK cp_0 hb
  replace cp_1 := cellK cp_1 hb
  replace cp_2 := cellK cp_2 hb
  replace cconfidence_0 := cellK cconfidence_0 hb
  replace cconfidence_1 := cellK cconfidence_1 hb
  replace cconfidence_2 := cellK cconfidence_2 hb
  clear hb
  try go_wp2_with fail
  refine hK.out _ _ ⟨cc_0, cc_1, cp_0, cp_1, cp_2, cconfidence_0, cconfidence_1, cconfidence_2⟩ (fun hH => ?_)
  clear hK K
  try simp only [LY]
  clear hH
  refine U_one (i := 7) (by kernel_rfl) rfl (fun K hK => ?_)
  go_simp
  (with_reducible refine (al_less _ _ _ hu (SzQ.mid su)).mono ?_)
  rintro e w4 ⟨_, rfl, h2, hb⟩
  obtain ⟨sh2, ah2, nh2, ch2, Ah2, Nh2, Ch2, rfl⟩ := h2.shape
  replace hs := bStep hs hb
  replace Blc := Blc.mono hb
  replace Blp := Blp.mono hb
  replace Blconfidence := Blconfidence.mono hb
  replace hp := hp.mono hb
  replace hu := hu.mono hb
  replace h1 := h1.mono hb
  replace cc_0 := cellK cc_0 hb
  replace cc_1 := cellK cc_1 hb
  replace cp_0 := cellK cp_0 hb
  replace cp_1 := cellK cp_1 hb
  replace cp_2 := cellK cp_2 hb
  replace cconfidence_0 := cellK cconfidence_0 hb
  replace cconfidence_1 := cellK cconfidence_1 hb
  replace cconfidence_2 := cellK cconfidence_2 hb
  clear hb
  try go_wp2_with fail
  refine hK.out _ _ ⟨cc_0, cc_1, cp_0, cp_1, cp_2, cconfidence_0, cconfidence_1, cconfidence_2⟩ (fun hH => ?_)
  clear hK K
  try simp only [LY]
  clear hH
  refine U_one (i := 8) (by kernel_rfl) rfl (fun K hK => ?_)
  go_simp
  (with_reducible refine (pCmp h1 h2 (SzQ.fit HT.out) (SzQ.fit (SzQ.sub szQ_one su))).mono ?_)
  rintro e w5 ⟨rfl, hb⟩
  replace hs := bStep hs hb
  replace Blc := Blc.mono hb
  replace Blp := Blp.mono hb
  replace Blconfidence := Blconfidence.mono hb
  replace hp := hp.mono hb
  replace hu := hu.mono hb
  replace h1 := h1.mono hb
  replace h2 := h2.mono hb
  replace cc_0 := cellK cc_0 hb
  replace cc_1 := cellK cc_1 hb
  replace cp_0 := cellK cp_0 hb
  replace cp_1 := cellK cp_1 hb
  replace cp_2 := cellK cp_2 hb
  replace cconfidence_0 := cellK cconfidence_0 hb
  replace cconfidence_1 := cellK cconfidence_1 hb
  replace cconfidence_2 := cellK cconfidence_2 hb
  clear hb
  rw [← Hsg3.out]
  try go_wp2_with fail
  refine hK.out _ _ ⟨cc_0, cc_1, cp_0, cp_1, cp_2, cconfidence_0, cconfidence_1, cconfidence_2⟩ (fun hH => ?_)
  clear hK K
  try simp only [LY]
  refine U_takeN (i := 9) (d := 16) (v := ?_) rfl rfl rfl (by kernel_rfl) (by kernel_rfl) (by kernel_rfl) (fun _ _ _ h => h) (Or.inl ⟨by rfl, ?_⟩) hH ?_
  rotate_left
  · intro w hSw
    try dsimp only at hSw
    go_simp
    try with_reducible rfl
  simp only [LY]
  refine U_takeN (i := 10) (d := 6) (v := ?_) rfl rfl rfl (by kernel_rfl) (by kernel_rfl) (by kernel_rfl) (fun _ _ _ h => h) (Or.inl ⟨by rfl, ?_⟩) hH ?_
  rotate_left
  · intro w hSw
    try dsimp only at hSw
    go_simp
    try with_reducible rfl
  simp only [LY]
  clear hH
  refine U_endN (by kernel_rfl) ?_
  clear cc_0 cc_1 cp_0 cp_1 cp_2 cconfidence_0 cconfidence_1 cconfidence_2
  by_cases q4 : tlQ p n f ≤ 1 - u
  · have q4_ : sg3 ≤ 0 := by have h := sq_le (tlQ p n f) (1 - u); rw [← Hsg3.out] at h; exact h.2 q4
    have q4H := Lib.hid q4
    clear q4
    have q4d : decide (sg3 ≤ 0) = true := decide_eq_true q4_
    try simp only [q4d]
    go_wp2
    go_ret
    exact ⟨by rw [← HQ.out]; unfold prvQ; rw [decide_eq_true q4H.out]; rfl, hs⟩
  · have q4_ : ¬ (sg3 ≤ 0) := by have h := sq_le (tlQ p n f) (1 - u); rw [← Hsg3.out] at h; exact fun h1 => q4 (h.1 h1)
    have q4H := Lib.hid q4
    clear q4
    have q4d : decide (sg3 ≤ 0) = false := decide_eq_false q4_
    try simp only [q4d]
    go_wp2
    go_ret
    exact ⟨by rw [← HQ.out]; unfold prvQ; rw [decide_eq_false q4H.out]; rfl, hs⟩

theorem al_New_e {n d : Int} {f : Rat} (w : World) (h : (n : Rat) / (d : Rat) = f) (h1 : 0 ≤ n) (h2 : n ≤ 4294967295) (h3 : 1 ≤ d) (h4 : d ≤ 4294967295) : Calls Try.prog 55 #[.int .i64 n, .int .i64 d] w (RetPE w f 0) := by
  subst h
  exact p_New_calls n d w (by omega) (by omega) (by omega) (by omega) (by omega)
theorem atQs_sz {s i : Nat} (hs : 0 < s) (h : i ≤ s) (h2 : s ≤ 2000000) : SzQ 1 (atQs s i) := szQ_frac (by omega) (by omega) (by omega)
theorem bisQ_yes' {P : Nat → Bool} {lo hi md : Nat} (hm : md = (lo + hi) / 2) (h : ¬ hi ≤ lo + 1) (hp : P md = true) : bisQ P lo hi = bisQ P md hi := by subst hm; exact bisQ_yes h hp
theorem bisQ_no' {P : Nat → Bool} {lo hi md : Nat} (hm : md = (lo + hi) / 2) (h : ¬ hi ≤ lo + 1) (hp : P md = false) : bisQ P lo hi = bisQ P lo md := by subst hm; exact bisQ_no h hp
set_option maxRecDepth 100000 in
set_option maxHeartbeats 4000000 in
theorem al_at {g S i : Nat} {ii : Int} (w : World) (hB : Bx w g 3 #[.int .i64 S]) (hii : ii = i) (h0 : 0 < S) (h1 : i ≤ S) (h2 : S ≤ 2000000) : Calls Try.prog 54 #[.int .i64 ii, .pointer (some ⟨g, 0, none⟩)] w (RetP w (atQs S i)) := by
  subst hii
  have hs := Below.refl w.heap.size w
  have Blsteps := hB
  clear hB
  go_enter Try.func54, Try.ntmps54
  have csteps_0 : w.cell? ⟨g, 0, none⟩ = some (.int .i64 (S : Int)) := Blsteps.at 0 rfl
  have Lsteps : g < w.heap.size := Blsteps.lt
  go_wp2_with fail
  clear csteps_0 Lsteps
  refine Calls.abs ?_
  intro w1 hW
  have hG : Gr [] w w1 := by rw [hW]; exact (Gr.refl _ _).alloc
  have hbw : Below w.heap.size w w1 := hG.below0 hs.size
  have hk : KeepD w w1 := hG.keep True.intro
  have sz_w1 : w.heap.size ≤ w.heap.size := hs.size
  have nsteps_w1 : g < w.heap.size := Blsteps.lt
  have Blk : Bx w1 (w.heap.size) 26 #[.bool false, .slice none 0 0, .slice none 0 0] := by rw [hW]; exact (Bx.new0 _ _ _)
  replace hs := hs.trans hbw
  replace Blsteps := hG.bx Blsteps notMem0
  clear hW hG hk hbw
  have hz_w1 : w.heap.size < w1.heap.size := Blk.lt
  with_reducible refine (al_New_e _ rfl (by omega) (by omega) (by omega) (by omega)).mono ?_
  rintro e w2 ⟨_, rfl, h1, hb⟩
  obtain ⟨sh1, ah1, nh1, ch1, Ah1, Nh1, Ch1, rfl⟩ := h1.shape
  replace hs := bStep hs hb
  replace Blsteps := Blsteps.mono hb
  replace Blk := Blk.mono hb
  clear hb
  go_upto_region 2 with fail
  refine Code.abs ?_
  intro w3 hW
  have hG : Gr [] w2 w3 := by rw [hW]; exact (Gr.refl _ _).alloc
  have hbw : Below w.heap.size w2 w3 := hG.below0 hs.size
  have hk : KeepD w2 w3 := hG.keep True.intro
  have sz_w3 : w.heap.size ≤ w2.heap.size := hs.size
  have nsteps_w3 : g < w2.heap.size := Blsteps.lt
  have nk_w3 : w.heap.size < w2.heap.size := Blk.lt
  have Blx : Bx w3 (w2.heap.size) 26 #[.bool sh1, .slice ah1 nh1 ch1, .slice Ah1 Nh1 Ch1] := by rw [hW]; exact (Bx.new0 _ _ _)
  replace hs := hs.trans hbw
  replace Blsteps := hG.bx Blsteps notMem0
  replace Blk := hG.bx Blk notMem0
  replace h1 := h1.keep hk
  clear hW hG hk hbw
  have hz_w3 : w2.heap.size < w3.heap.size := Blx.lt
  have cx_0 : w3.cell? ⟨w2.heap.size, 0, none⟩ = some (.bool sh1) := Blx.at 0 rfl
  have cx_1 : w3.cell? ⟨w2.heap.size, 1, none⟩ = some (.slice ah1 nh1 ch1) := Blx.at 1 rfl
  have cx_2 : w3.cell? ⟨w2.heap.size, 2, none⟩ = some (.slice Ah1 Nh1 Ch1) := Blx.at 2 rfl
  have Lx : w2.heap.size < w3.heap.size := Blx.lt
  have ck_0 : w3.cell? ⟨w.heap.size, 0, none⟩ = some (.bool false) := Blk.at 0 rfl
  have ck_1 : w3.cell? ⟨w.heap.size, 1, none⟩ = some (.slice none 0 0) := Blk.at 1 rfl
  have ck_2 : w3.cell? ⟨w.heap.size, 2, none⟩ = some (.slice none 0 0) := Blk.at 2 rfl
  have fk := Blk.free
  have Lk : w.heap.size < w3.heap.size := Blk.lt
  go_wp2
  clear cx_0 cx_1 cx_2 ck_0 ck_1 ck_2 fk Lx Lk
  refine bodyPost.abs ?_
  intro w4 hW
  have hG : Gr [w.heap.size] w3 w4 := by rw [hW]; exact (Gr.refl _ _).set.set.set
  have hsz := hs.size
  have lk := Blk.lt
  have hbw : Below w.heap.size w3 w4 := hG.below1 hs.size (by first | omega | assumption)
  have hk : KeepD w3 w4 := hG.keep ⟨⟨_, Blk.ty, by decide⟩, True.intro⟩
  have Bl1k : Bx w4 (w.heap.size) 26 #[.bool sh1, .slice ah1 nh1 ch1, .slice Ah1 Nh1 Ch1] := by rw [hW]; exact Blk.set3
  replace hs := hs.trans hbw
  replace Blsteps := hG.bx Blsteps (notMem1 (by omega))
  replace Blx := hG.bx Blx (notMem1 (by omega))
  replace Blk := Bl1k
  clear Bl1k
  replace h1 := h1.keep hk
  clear hW hG hk hbw hsz lk
  have ck_0 : w4.cell? ⟨w.heap.size, 0, none⟩ = some (.bool sh1) := Blk.at 0 rfl
  have ck_1 : w4.cell? ⟨w.heap.size, 1, none⟩ = some (.slice ah1 nh1 ch1) := Blk.at 1 rfl
  have ck_2 : w4.cell? ⟨w.heap.size, 2, none⟩ = some (.slice Ah1 Nh1 Ch1) := Blk.at 2 rfl
  exact bodyPost_ret (v := .agg #[.bool sh1, .slice ah1 nh1 ch1, .slice Ah1 Nh1 Ch1]) (by simp [results, Try.results54, go_sem, ck_0, ck_1, ck_2]) rfl ⟨_, rfl, h1, hs⟩

set_option maxRecDepth 100000 in
set_option maxHeartbeats 16000000 in
theorem al_Det_nil {v : Value} {u : Rat} {n f : Nat} (k : Int) (w : World) (h1 : 1 ≤ n) (h2 : n ≤ 64) (h3 : f ≤ n) (hu : PV w v u) (su : SzQ 1 u) (u0 : 0 ≤ u) (u1 : u ≤ 1) (hf : f = 0) :
    Calls Try.prog 23 #[.agg #[.int .i64 n, .int .i64 f], v, .int .i64 k] w (Ret2 (fun w v => PV2 w v (0) (0)) (fun _ v => v = .int .i64 0) w) := by
  obtain ⟨shu, ahu, nhu, chu, Ahu, Nhu, Chu, rfl⟩ := hu.shape
  have hs := Below.refl w.heap.size w
  have HU := Lib.hid (And.intro u0 u1)
  clear u0 u1
  have hf1 : (f : Int) = 0 := by omega
  have HF := Lib.hid hf
  clear hf hf1
  go_enter Try.func23, Try.ntmps23
  go_wp2_with fail
  refine Calls.abs ?_
  intro w1 hW
  have hG : Gr [] w w1 := by rw [hW]; exact (Gr.refl _ _).alloc.alloc.alloc
  have hbw : Below w.heap.size w w1 := hG.below0 hs.size
  have hk : KeepD w w1 := hG.keep True.intro
  have sz_w1 : w.heap.size ≤ w.heap.size := hs.size
  have Blc : Bx w1 (w.heap.size) 48 #[.int .i64 ((n : Int)), .int .i64 ((f : Int))] := by rw [hW]; exact (((Bx.new0 _ _ _).alloc _).alloc _)
  have Blconfidence : Bx w1 (w.heap.size + 1) 26 #[.bool shu, .slice ahu nhu chu, .slice Ahu Nhu Chu] := by rw [hW]; exact ((Bx.new0 _ _ _).alloc _)
  have Blk : Bx w1 (w.heap.size + 1 + 1) 50 #[.bool false, .slice none 0 0, .slice none 0 0, .bool false, .slice none 0 0, .slice none 0 0] := by rw [hW]; exact (Bx.new0 _ _ _)
  replace hs := hs.trans hbw
  replace hu := hu.keep hk
  clear hW hG hk hbw
  have hz_w1 : w.heap.size + 1 + 1 < w1.heap.size := Blk.lt
  with_reducible refine (cl_check _ (by omega) (by omega) (by omega)).mono ?_
  rintro e w2 ⟨rfl, hb⟩
  replace hs := bStep hs hb
  replace Blc := Blc.mono hb
  replace Blconfidence := Blconfidence.mono hb
  replace Blk := Blk.mono hb
  replace hu := hu.mono hb
  clear hb
  have cconfidence_0 : w2.cell? ⟨w.heap.size + 1, 0, none⟩ = some (.bool shu) := Blconfidence.at 0 rfl
  have cconfidence_1 : w2.cell? ⟨w.heap.size + 1, 1, none⟩ = some (.slice ahu nhu chu) := Blconfidence.at 1 rfl
  have cconfidence_2 : w2.cell? ⟨w.heap.size + 1, 2, none⟩ = some (.slice Ahu Nhu Chu) := Blconfidence.at 2 rfl
  have Lconfidence : w.heap.size + 1 < w2.heap.size := Blconfidence.lt
  go_wp2_with fail
  clear cconfidence_0 cconfidence_1 cconfidence_2 Lconfidence
  with_reducible refine (al_isChance _ _ _ hu (SzQ.mid su) rfl).mono ?_
  rintro e w3 ⟨rfl, hb⟩
  replace hs := bStep hs hb
  replace Blc := Blc.mono hb
  replace Blconfidence := Blconfidence.mono hb
  replace Blk := Blk.mono hb
  replace hu := hu.mono hb
  clear hb
  obtain ⟨b1, Hb1⟩ : ∃ b : Bool, b = decide (0 ≤ u ∧ u ≤ 1) := ⟨_, rfl⟩
  rw [← Hb1]
  replace Hb1 := Lib.hid Hb1
  have q2 : 0 ≤ u ∧ u ≤ 1 := HU.out
  obtain rfl : b1 = true := by rw [Hb1.out]; exact decide_eq_true q2
  have q2H := Lib.hid q2
  clear q2
  have q3 : f = 0 := HF.out
  have q3b : ((f : Int) == 0) = true := beq_iff_eq.2 (by omega)
  have q3n : ((f : Int) != 0) = false := bne_eq_false_iff_eq.2 (by omega)
  have q3H := Lib.hid q3
  clear q3
  have cc_0 : w3.cell? ⟨w.heap.size, 0, none⟩ = some (.int .i64 ((n : Int))) := Blc.at 0 rfl
  have cc_1 : w3.cell? ⟨w.heap.size, 1, none⟩ = some (.int .i64 ((f : Int))) := Blc.at 1 rfl
  have Lc : w.heap.size < w3.heap.size := Blc.lt
  have ck_0 : w3.cell? ⟨w.heap.size + 1 + 1, 0, none⟩ = some (.bool false) := Blk.at 0 rfl
  have ck_1 : w3.cell? ⟨w.heap.size + 1 + 1, 1, none⟩ = some (.slice none 0 0) := Blk.at 1 rfl
  have ck_2 : w3.cell? ⟨w.heap.size + 1 + 1, 2, none⟩ = some (.slice none 0 0) := Blk.at 2 rfl
  have ck_3 : w3.cell? ⟨w.heap.size + 1 + 1, 3, none⟩ = some (.bool false) := Blk.at 3 rfl
  have ck_4 : w3.cell? ⟨w.heap.size + 1 + 1, 4, none⟩ = some (.slice none 0 0) := Blk.at 4 rfl
  have ck_5 : w3.cell? ⟨w.heap.size + 1 + 1, 5, none⟩ = some (.slice none 0 0) := Blk.at 5 rfl
  have fk := Blk.free
  have Lk : w.heap.size + 1 + 1 < w3.heap.size := Blk.lt
  go_wp2
  clear cc_0 cc_1 ck_0 ck_1 ck_2 ck_3 ck_4 ck_5 fk Lc Lk
  refine bodyPost.abs ?_
  intro w4 hW
  have hG : Gr [w.heap.size + 1 + 1] w3 w4 := by rw [hW]; exact (Gr.refl _ _).set.set.set.set.set.set
  have hsz := hs.size
  have lk := Blk.lt
  have hbw : Below w.heap.size w3 w4 := hG.below1 hs.size (by first | omega | assumption)
  have hk : KeepD w3 w4 := hG.keep ⟨⟨_, Blk.ty, by decide⟩, True.intro⟩
  have Bl1k : Bx w4 (w.heap.size + 1 + 1) 50 #[.bool false, .slice none 0 0, .slice none 0 0, .bool false, .slice none 0 0, .slice none 0 0] := by rw [hW]; exact Blk.set6
  replace hs := hs.trans hbw
  replace Blc := hG.bx Blc (notMem1 (by omega))
  replace Blconfidence := hG.bx Blconfidence (notMem1 (by omega))
  replace Blk := Bl1k
  clear Bl1k
  replace hu := hu.keep hk
  clear hW hG hk hbw hsz lk
  have ck_0 : w4.cell? ⟨w.heap.size + 1 + 1, 0, none⟩ = some (.bool false) := Blk.at 0 rfl
  have ck_1 : w4.cell? ⟨w.heap.size + 1 + 1, 1, none⟩ = some (.slice none 0 0) := Blk.at 1 rfl
  have ck_2 : w4.cell? ⟨w.heap.size + 1 + 1, 2, none⟩ = some (.slice none 0 0) := Blk.at 2 rfl
  have ck_3 : w4.cell? ⟨w.heap.size + 1 + 1, 3, none⟩ = some (.bool false) := Blk.at 3 rfl
  have ck_4 : w4.cell? ⟨w.heap.size + 1 + 1, 4, none⟩ = some (.slice none 0 0) := Blk.at 4 rfl
  have ck_5 : w4.cell? ⟨w.heap.size + 1 + 1, 5, none⟩ = some (.slice none 0 0) := Blk.at 5 rfl
  exact bodyPost_ret (v := .tuple #[.agg #[.bool false, .slice none 0 0, .slice none 0 0, .bool false, .slice none 0 0, .slice none 0 0], .int .i64 0]) (by simp [results, Try.results23, go_sem, ck_0, ck_1, ck_2, ck_3, ck_4, ck_5]) rfl ⟨_, _, rfl, (PV2.mk (PV.zero _) (PV.zero _)), rfl, hs⟩

set_option maxRecDepth 100000 in
set_option maxHeartbeats 16000000 in
theorem al_Det_sure {v : Value} {u : Rat} {n f : Nat} (k : Int) (w : World) (h1 : 1 ≤ n) (h2 : n ≤ 64) (h3 : f ≤ n) (hu : PV w v u) (su : SzQ 1 u) (u0 : 0 ≤ u) (u1 : u ≤ 1) (hf : ¬ f = 0) (hz : u = 0) :
    Calls Try.prog 23 #[.agg #[.int .i64 n, .int .i64 f], v, .int .i64 k] w (Ret2 (fun w v => PV2 w v (1) (1)) (fun _ v => v = .int .i64 0) w) := by
  obtain ⟨shu, ahu, nhu, chu, Ahu, Nhu, Chu, rfl⟩ := hu.shape
  have hs := Below.refl w.heap.size w
  have HU := Lib.hid (And.intro u0 u1)
  clear u0 u1
  have HF := Lib.hid hf
  have HZ := Lib.hid hz
  clear hz
  go_enter Try.func23, Try.ntmps23
  go_wp2_with fail
  refine Calls.abs ?_
  intro w1 hW
  have hG : Gr [] w w1 := by rw [hW]; exact (Gr.refl _ _).alloc.alloc.alloc
  have hbw : Below w.heap.size w w1 := hG.below0 hs.size
  have hk : KeepD w w1 := hG.keep True.intro
  have sz_w1 : w.heap.size ≤ w.heap.size := hs.size
  have Blc : Bx w1 (w.heap.size) 48 #[.int .i64 ((n : Int)), .int .i64 ((f : Int))] := by rw [hW]; exact (((Bx.new0 _ _ _).alloc _).alloc _)
  have Blconfidence : Bx w1 (w.heap.size + 1) 26 #[.bool shu, .slice ahu nhu chu, .slice Ahu Nhu Chu] := by rw [hW]; exact ((Bx.new0 _ _ _).alloc _)
  have Blk : Bx w1 (w.heap.size + 1 + 1) 50 #[.bool false, .slice none 0 0, .slice none 0 0, .bool false, .slice none 0 0, .slice none 0 0] := by rw [hW]; exact (Bx.new0 _ _ _)
  replace hs := hs.trans hbw
  replace hu := hu.keep hk
  clear hW hG hk hbw
  have hz_w1 : w.heap.size + 1 + 1 < w1.heap.size := Blk.lt
  with_reducible refine (cl_check _ (by omega) (by omega) (by omega)).mono ?_
  rintro e w2 ⟨rfl, hb⟩
  replace hs := bStep hs hb
  replace Blc := Blc.mono hb
  replace Blconfidence := Blconfidence.mono hb
  replace Blk := Blk.mono hb
  replace hu := hu.mono hb
  clear hb
  have cconfidence_0 : w2.cell? ⟨w.heap.size + 1, 0, none⟩ = some (.bool shu) := Blconfidence.at 0 rfl
  have cconfidence_1 : w2.cell? ⟨w.heap.size + 1, 1, none⟩ = some (.slice ahu nhu chu) := Blconfidence.at 1 rfl
  have cconfidence_2 : w2.cell? ⟨w.heap.size + 1, 2, none⟩ = some (.slice Ahu Nhu Chu) := Blconfidence.at 2 rfl
  have Lconfidence : w.heap.size + 1 < w2.heap.size := Blconfidence.lt
  go_wp2_with fail
  clear cconfidence_0 cconfidence_1 cconfidence_2 Lconfidence
  with_reducible refine (al_isChance _ _ _ hu (SzQ.mid su) rfl).mono ?_
  rintro e w3 ⟨rfl, hb⟩
  replace hs := bStep hs hb
  replace Blc := Blc.mono hb
  replace Blconfidence := Blconfidence.mono hb
  replace Blk := Blk.mono hb
  replace hu := hu.mono hb
  clear hb
  obtain ⟨b1, Hb1⟩ : ∃ b : Bool, b = decide (0 ≤ u ∧ u ≤ 1) := ⟨_, rfl⟩
  rw [← Hb1]
  replace Hb1 := Lib.hid Hb1
  have q2 : 0 ≤ u ∧ u ≤ 1 := HU.out
  obtain rfl : b1 = true := by rw [Hb1.out]; exact decide_eq_true q2
  have q2H := Lib.hid q2
  clear q2
  have q3 : ¬ (f = 0) := HF.out
  have q3b : ((f : Int) == 0) = false := beq_eq_false_iff_ne.2 (by omega)
  have q3n : ((f : Int) != 0) = true := bne_iff_ne.2 (by omega)
  have q3H := Lib.hid q3
  clear q3
  have cc_0 : w3.cell? ⟨w.heap.size, 0, none⟩ = some (.int .i64 ((n : Int))) := Blc.at 0 rfl
  have cc_1 : w3.cell? ⟨w.heap.size, 1, none⟩ = some (.int .i64 ((f : Int))) := Blc.at 1 rfl
  have Lc : w.heap.size < w3.heap.size := Blc.lt
  have cconfidence_0 : w3.cell? ⟨w.heap.size + 1, 0, none⟩ = some (.bool shu) := Blconfidence.at 0 rfl
  have cconfidence_1 : w3.cell? ⟨w.heap.size + 1, 1, none⟩ = some (.slice ahu nhu chu) := Blconfidence.at 1 rfl
  have cconfidence_2 : w3.cell? ⟨w.heap.size + 1, 2, none⟩ = some (.slice Ahu Nhu Chu) := Blconfidence.at 2 rfl
  have Lconfidence : w.heap.size + 1 < w3.heap.size := Blconfidence.lt
  go_wp2_with fail
  clear cc_0 cc_1 cconfidence_0 cconfidence_1 cconfidence_2 Lc Lconfidence
  with_reducible refine (p_Zero_calls _ _ _ hu).mono ?_
  rintro e w4 ⟨rfl, hb⟩
  replace hs := bStep hs hb
  replace Blc := Blc.mono hb
  replace Blconfidence := Blconfidence.mono hb
  replace Blk := Blk.mono hb
  replace hu := hu.mono hb
  clear hb
  obtain ⟨b4, Hb4⟩ : ∃ b : Bool, b = decide (u = 0) := ⟨_, rfl⟩
  rw [← Hb4]
  replace Hb4 := Lib.hid Hb4
  have q5 : u = 0 := HZ.out
  obtain rfl : b4 = true := by rw [Hb4.out]; exact decide_eq_true q5
  have q5H := Lib.hid q5
  clear q5
  go_wp2_with fail
  with_reducible refine (al_one _).mono ?_
  rintro e w5 ⟨_, rfl, h6, hb⟩
  obtain ⟨sh6, ah6, nh6, ch6, Ah6, Nh6, Ch6, rfl⟩ := h6.shape
  replace hs := bStep hs hb
  replace Blc := Blc.mono hb
  replace Blconfidence := Blconfidence.mono hb
  replace Blk := Blk.mono hb
  replace hu := hu.mono hb
  clear hb
  go_wp2_with fail
  with_reducible refine (p_Only _ _ _ h6).mono ?_
  rintro e w6 ⟨_, rfl, h7, hb⟩
  obtain ⟨sh7a, ah7a, nh7a, ch7a, Ah7a, Nh7a, Ch7a, sh7b, ah7b, nh7b, ch7b, Ah7b, Nh7b, Ch7b, rfl, h7a, h7b⟩ := h7.shape
  replace hs := bStep hs hb
  replace Blc := Blc.mono hb
  replace Blconfidence := Blconfidence.mono hb
  replace Blk := Blk.mono hb
  replace hu := hu.mono hb
  replace h6 := h6.mono hb
  clear hb
  have ck_0 : w6.cell? ⟨w.heap.size + 1 + 1, 0, none⟩ = some (.bool false) := Blk.at 0 rfl
  have ck_1 : w6.cell? ⟨w.heap.size + 1 + 1, 1, none⟩ = some (.slice none 0 0) := Blk.at 1 rfl
  have ck_2 : w6.cell? ⟨w.heap.size + 1 + 1, 2, none⟩ = some (.slice none 0 0) := Blk.at 2 rfl
  have ck_3 : w6.cell? ⟨w.heap.size + 1 + 1, 3, none⟩ = some (.bool false) := Blk.at 3 rfl
  have ck_4 : w6.cell? ⟨w.heap.size + 1 + 1, 4, none⟩ = some (.slice none 0 0) := Blk.at 4 rfl
  have ck_5 : w6.cell? ⟨w.heap.size + 1 + 1, 5, none⟩ = some (.slice none 0 0) := Blk.at 5 rfl
  have fk := Blk.free
  have Lk : w.heap.size + 1 + 1 < w6.heap.size := Blk.lt
  go_wp2
  clear ck_0 ck_1 ck_2 ck_3 ck_4 ck_5 fk Lk
  refine bodyPost.abs ?_
  intro w7 hW
  have hG : Gr [w.heap.size + 1 + 1] w6 w7 := by rw [hW]; exact (Gr.refl _ _).set.set.set.set.set.set
  have hsz := hs.size
  have lk := Blk.lt
  have hbw : Below w.heap.size w6 w7 := hG.below1 hs.size (by first | omega | assumption)
  have hk : KeepD w6 w7 := hG.keep ⟨⟨_, Blk.ty, by decide⟩, True.intro⟩
  have Bl1k : Bx w7 (w.heap.size + 1 + 1) 50 #[.bool sh7a, .slice ah7a nh7a ch7a, .slice Ah7a Nh7a Ch7a, .bool sh7b, .slice ah7b nh7b ch7b, .slice Ah7b Nh7b Ch7b] := by rw [hW]; exact Blk.set6
  replace hs := hs.trans hbw
  replace Blc := hG.bx Blc (notMem1 (by omega))
  replace Blconfidence := hG.bx Blconfidence (notMem1 (by omega))
  replace Blk := Bl1k
  clear Bl1k
  replace hu := hu.keep hk
  replace h6 := h6.keep hk
  replace h7a := h7a.keep hk
  replace h7b := h7b.keep hk
  clear hW hG hk hbw hsz lk
  have ck_0 : w7.cell? ⟨w.heap.size + 1 + 1, 0, none⟩ = some (.bool sh7a) := Blk.at 0 rfl
  have ck_1 : w7.cell? ⟨w.heap.size + 1 + 1, 1, none⟩ = some (.slice ah7a nh7a ch7a) := Blk.at 1 rfl
  have ck_2 : w7.cell? ⟨w.heap.size + 1 + 1, 2, none⟩ = some (.slice Ah7a Nh7a Ch7a) := Blk.at 2 rfl
  have ck_3 : w7.cell? ⟨w.heap.size + 1 + 1, 3, none⟩ = some (.bool sh7b) := Blk.at 3 rfl
  have ck_4 : w7.cell? ⟨w.heap.size + 1 + 1, 4, none⟩ = some (.slice ah7b nh7b ch7b) := Blk.at 4 rfl
  have ck_5 : w7.cell? ⟨w.heap.size + 1 + 1, 5, none⟩ = some (.slice Ah7b Nh7b Ch7b) := Blk.at 5 rfl
  exact bodyPost_ret (v := .tuple #[.agg #[.bool sh7a, .slice ah7a nh7a ch7a, .slice Ah7a Nh7a Ch7a, .bool sh7b, .slice ah7b nh7b ch7b, .slice Ah7b Nh7b Ch7b], .int .i64 0]) (by simp [results, Try.results23, go_sem, ck_0, ck_1, ck_2, ck_3, ck_4, ck_5]) rfl ⟨_, _, rfl, (PV2.mk h7a h7b), rfl, hs⟩

set_option maxRecDepth 100000 in
set_option maxHeartbeats 16000000 in
theorem al_Det_ok {v : Value} {u : Rat} {n f : Nat} (k : Int) (w : World) (h1 : 1 ≤ n) (h2 : n ≤ 64) (h3 : f ≤ n) (hu : PV w v u) (su : SzQ 1 u) (u0 : 0 ≤ u) (u1 : u ≤ 1) (hf : ¬ f = 0) (hz : ¬ u = 0) (hk : k ≤ 20) {S D : Nat} (hS : (2 : Int) ^ (min (max k 0) 20).toNat = (S : Int)) (hS0 : 0 < S) (hS1 : S ≤ 2000000) (hD : detQ n f u S = D) :
    Calls Try.prog 23 #[.agg #[.int .i64 n, .int .i64 f], v, .int .i64 k] w (Ret2 (fun w v => PV2 w v (atQs S D) (atQs S (D + 1))) (fun _ v => v = .int .i64 0) w) := by
  obtain ⟨shu, ahu, nhu, chu, Ahu, Nhu, Chu, rfl⟩ := hu.shape
  have hs := Below.refl w.heap.size w
  have HU := Lib.hid (And.intro u0 u1)
  clear u0 u1
  have HF := Lib.hid hf
  have HZ := Lib.hid hz
  have HD := Lib.hid (show bisQ (fun i => prvQ n f u (atQs S i)) 0 S = D from hD)
  clear hz hD
  go_enter Try.func23, Try.ntmps23
  go_wp2_with fail
  refine Calls.abs ?_
  intro w1 hW
  have hG : Gr [] w w1 := by rw [hW]; exact (Gr.refl _ _).alloc.alloc.alloc
  have hbw : Below w.heap.size w w1 := hG.below0 hs.size
  have hk : KeepD w w1 := hG.keep True.intro
  have sz_w1 : w.heap.size ≤ w.heap.size := hs.size
  have Blc : Bx w1 (w.heap.size) 48 #[.int .i64 ((n : Int)), .int .i64 ((f : Int))] := by rw [hW]; exact (((Bx.new0 _ _ _).alloc _).alloc _)
  have Blconfidence : Bx w1 (w.heap.size + 1) 26 #[.bool shu, .slice ahu nhu chu, .slice Ahu Nhu Chu] := by rw [hW]; exact ((Bx.new0 _ _ _).alloc _)
  have Blk : Bx w1 (w.heap.size + 1 + 1) 50 #[.bool false, .slice none 0 0, .slice none 0 0, .bool false, .slice none 0 0, .slice none 0 0] := by rw [hW]; exact (Bx.new0 _ _ _)
  replace hs := hs.trans hbw
  replace hu := hu.keep hk
  clear hW hG hk hbw
  have hz_w1 : w.heap.size + 1 + 1 < w1.heap.size := Blk.lt
  with_reducible refine (cl_check _ (by omega) (by omega) (by omega)).mono ?_
  rintro e w2 ⟨rfl, hb⟩
  replace hs := bStep hs hb
  replace Blc := Blc.mono hb
  replace Blconfidence := Blconfidence.mono hb
  replace Blk := Blk.mono hb
  replace hu := hu.mono hb
  clear hb
  have cconfidence_0 : w2.cell? ⟨w.heap.size + 1, 0, none⟩ = some (.bool shu) := Blconfidence.at 0 rfl
  have cconfidence_1 : w2.cell? ⟨w.heap.size + 1, 1, none⟩ = some (.slice ahu nhu chu) := Blconfidence.at 1 rfl
  have cconfidence_2 : w2.cell? ⟨w.heap.size + 1, 2, none⟩ = some (.slice Ahu Nhu Chu) := Blconfidence.at 2 rfl
  have Lconfidence : w.heap.size + 1 < w2.heap.size := Blconfidence.lt
  go_wp2_with fail
  clear cconfidence_0 cconfidence_1 cconfidence_2 Lconfidence
  with_reducible refine (al_isChance _ _ _ hu (SzQ.mid su) rfl).mono ?_
  rintro e w3 ⟨rfl, hb⟩
  replace hs := bStep hs hb
  replace Blc := Blc.mono hb
  replace Blconfidence := Blconfidence.mono hb
  replace Blk := Blk.mono hb
  replace hu := hu.mono hb
  clear hb
  obtain ⟨b1, Hb1⟩ : ∃ b : Bool, b = decide (0 ≤ u ∧ u ≤ 1) := ⟨_, rfl⟩
  rw [← Hb1]
  replace Hb1 := Lib.hid Hb1
  have q2 : 0 ≤ u ∧ u ≤ 1 := HU.out
  obtain rfl : b1 = true := by rw [Hb1.out]; exact decide_eq_true q2
  have q2H := Lib.hid q2
  clear q2
  have q3 : ¬ (f = 0) := HF.out
  have q3b : ((f : Int) == 0) = false := beq_eq_false_iff_ne.2 (by omega)
  have q3n : ((f : Int) != 0) = true := bne_iff_ne.2 (by omega)
  have q3H := Lib.hid q3
  clear q3
  have cc_0 : w3.cell? ⟨w.heap.size, 0, none⟩ = some (.int .i64 ((n : Int))) := Blc.at 0 rfl
  have cc_1 : w3.cell? ⟨w.heap.size, 1, none⟩ = some (.int .i64 ((f : Int))) := Blc.at 1 rfl
  have Lc : w.heap.size < w3.heap.size := Blc.lt
  have cconfidence_0 : w3.cell? ⟨w.heap.size + 1, 0, none⟩ = some (.bool shu) := Blconfidence.at 0 rfl
  have cconfidence_1 : w3.cell? ⟨w.heap.size + 1, 1, none⟩ = some (.slice ahu nhu chu) := Blconfidence.at 1 rfl
  have cconfidence_2 : w3.cell? ⟨w.heap.size + 1, 2, none⟩ = some (.slice Ahu Nhu Chu) := Blconfidence.at 2 rfl
  have Lconfidence : w.heap.size + 1 < w3.heap.size := Blconfidence.lt
  go_wp2_with fail
  clear cc_0 cc_1 cconfidence_0 cconfidence_1 cconfidence_2 Lc Lconfidence
  with_reducible refine (p_Zero_calls _ _ _ hu).mono ?_
  rintro e w4 ⟨rfl, hb⟩
  replace hs := bStep hs hb
  replace Blc := Blc.mono hb
  replace Blconfidence := Blconfidence.mono hb
  replace Blk := Blk.mono hb
  replace hu := hu.mono hb
  clear hb
  obtain ⟨b4, Hb4⟩ : ∃ b : Bool, b = decide (u = 0) := ⟨_, rfl⟩
  rw [← Hb4]
  replace Hb4 := Lib.hid Hb4
  have q5 : ¬ (u = 0) := HZ.out
  obtain rfl : b4 = false := by rw [Hb4.out]; exact decide_eq_false q5
  have q5H := Lib.hid q5
  clear q5
  go_upto_region 12 with fail
  refine Code.abs ?_
  intro w5 hW
  have hG : Gr [] w4 w5 := by rw [hW]; exact (Gr.refl _ _).alloc
  have hbw : Below w.heap.size w4 w5 := hG.below0 hs.size
  have hk : KeepD w4 w5 := hG.keep True.intro
  have sz_w5 : w.heap.size ≤ w4.heap.size := hs.size
  have nc_w5 : w.heap.size < w4.heap.size := Blc.lt
  have nconfidence_w5 : w.heap.size + 1 < w4.heap.size := Blconfidence.lt
  have nk_w5 : w.heap.size + 1 + 1 < w4.heap.size := Blk.lt
  have Blsteps : Bx w5 (w4.heap.size) 3 #[.int .i64 ((S : Int))] := by rw [hW]; exact (Bx.new0 _ _ _)
  replace hs := hs.trans hbw
  replace Blc := hG.bx Blc notMem0
  replace Blconfidence := hG.bx Blconfidence notMem0
  replace Blk := hG.bx Blk notMem0
  replace hu := hu.keep hk
  clear hW hG hk hbw
  have hz_w5 : w4.heap.size < w5.heap.size := Blsteps.lt
  refine U_region (S := fun w' => w'.cell? ⟨w4.heap.size, 0, none⟩ = some (.int .i64 ((S : Int)))) (by kernel_rfl) 3 ?_
  refine AnyU.abs ?_
  intro w6 hW
  have hb : Below w5.heap.size w5 w6 := by rw [hW]; exact bDrew _
  replace hs := bStep hs hb
  replace Blc := Blc.mono hb
  replace Blconfidence := Blconfidence.mono hb
  replace Blk := Blk.mono hb
  replace Blsteps := Blsteps.mono hb
  replace hu := hu.mono hb
  clear hb hW
  have csteps_0 : w6.cell? ⟨w4.heap.size, 0, none⟩ = some (.int .i64 ((S : Int))) := Blsteps.at 0 rfl
  have hH := (show w6.cell? ⟨w4.heap.size, 0, none⟩ = some (.int .i64 ((S : Int))) from csteps_0)
  refine U_takeN (i := 0) (d := 39) (v := ?_) rfl rfl rfl (by kernel_rfl) (by kernel_rfl) (by kernel_rfl) (fun _ _ _ h => h) (Or.inl ⟨by rfl, ?_⟩) hH ?_
  rotate_left
  · intro w hSw
    try dsimp only at hSw
    go_simp
    try with_reducible rfl
  simp only [LY]
  refine U_takeN (i := 1) (d := 11) (v := ?_) rfl rfl rfl (by kernel_rfl) (by kernel_rfl) (by kernel_rfl) (fun _ _ _ h => h) (Or.inl ⟨by rfl, ?_⟩) hH ?_
  rotate_left
  · intro w hSw
    try dsimp only at hSw
    go_simp
    try with_reducible rfl
  simp only [LY]
  refine U_takeN (i := 2) (d := 12) (v := ?_) rfl rfl rfl (by kernel_rfl) (by kernel_rfl) (by kernel_rfl) (fun _ _ _ h => h) (Or.inl ⟨by rfl, ?_⟩) hH ?_
  rotate_left
  · intro w hSw
    try dsimp only at hSw
    go_simp
    try with_reducible rfl
  simp only [LY]
  clear hH
  refine U_endN (by kernel_rfl) ?_
  clear csteps_0
  go_wp2
  go_loopw [11, 12] (fun s11 s12 wq => ∃ lo hi : Nat, lo < hi ∧ hi ≤ S ∧ s11 = .int .i64 lo ∧ s12 = .int .i64 hi ∧ Hid (bisQ (fun i => prvQ n f u (atQs S i)) lo hi = D) ∧ Below w.heap.size w wq ∧ Bx wq (w.heap.size) 48 #[.int .i64 ((n : Int)), .int .i64 ((f : Int))] ∧ Bx wq (w.heap.size + 1) 26 #[.bool shu, .slice ahu nhu chu, .slice Ahu Nhu Chu] ∧ Bx wq (w.heap.size + 1 + 1) 50 #[.bool false, .slice none 0 0, .slice none 0 0, .bool false, .slice none 0 0, .slice none 0 0] ∧ Bx wq (w4.heap.size) 3 #[.int .i64 ((S : Int))] ∧ PV wq (.agg #[.bool shu, .slice ahu nhu chu, .slice Ahu Nhu Chu]) (u)) (fun s11 s12 _ => (intOf s12).toNat - (intOf s11).toNat)
  case atStart => exact ⟨0, S, by omega, Nat.le_refl _, rfl, rfl, HD, hs, Blc, Blconfidence, Blk, Blsteps, hu⟩
  case round =>
    clear Blc Blconfidence Blk Blsteps hu hs HD
    obtain ⟨lo, hi, lo_lt, hi_le, rfl, rfl, HI, hs, Blc, Blconfidence, Blk, Blsteps, hu⟩ := hrel
    by_cases q6 : 1 < (hi : Int) - (lo : Int)
    · have q6d : ((1 : Int) < (hi : Int) - (lo : Int)) = True := eq_true (by omega)
      obtain ⟨md, hmd⟩ : ∃ md : Nat, md = (lo + hi) / 2 := ⟨_, rfl⟩
      have md0 : lo < md := by omega
      have md1 : md < hi := by omega
      have md2 : (md : Int) = ((lo : Int) + (hi : Int)) / 2 := by omega
      replace hmd := Lib.hid hmd
      replace md2 := Lib.hid md2
      go_upto_region 15 with fail
      obtain ⟨b8, Hb8⟩ : ∃ b : Bool, b = prvQ n f u (atQs S md) := ⟨_, rfl⟩
      replace Hb8 := Lib.hid Hb8
      refine U_region (S := fun w' => w'.cell? ⟨w.heap.size, 0, none⟩ = some (.int .i64 ((n : Int))) ∧ w'.cell? ⟨w.heap.size, 1, none⟩ = some (.int .i64 ((f : Int))) ∧ w'.cell? ⟨w.heap.size + 1, 0, none⟩ = some (.bool shu) ∧ w'.cell? ⟨w.heap.size + 1, 1, none⟩ = some (.slice ahu nhu chu) ∧ w'.cell? ⟨w.heap.size + 1, 2, none⟩ = some (.slice Ahu Nhu Chu)) (by kernel_rfl) 6 ?_
      refine AnyU.abs ?_
      intro w27 hW
      have hb : Below wr.heap.size wr w27 := by rw [hW]; exact bDrew _
      replace hs := bStep hs hb
      replace Blc := Blc.mono hb
      replace Blconfidence := Blconfidence.mono hb
      replace Blk := Blk.mono hb
      replace Blsteps := Blsteps.mono hb
      replace hu := hu.mono hb
      clear hb hW
      have cc_0 : w27.cell? ⟨w.heap.size, 0, none⟩ = some (.int .i64 ((n : Int))) := Blc.at 0 rfl
      have cc_1 : w27.cell? ⟨w.heap.size, 1, none⟩ = some (.int .i64 ((f : Int))) := Blc.at 1 rfl
      have cconfidence_0 : w27.cell? ⟨w.heap.size + 1, 0, none⟩ = some (.bool shu) := Blconfidence.at 0 rfl
      have cconfidence_1 : w27.cell? ⟨w.heap.size + 1, 1, none⟩ = some (.slice ahu nhu chu) := Blconfidence.at 1 rfl
      have cconfidence_2 : w27.cell? ⟨w.heap.size + 1, 2, none⟩ = some (.slice Ahu Nhu Chu) := Blconfidence.at 2 rfl
      have hH := (show w27.cell? ⟨w.heap.size, 0, none⟩ = some (.int .i64 ((n : Int))) ∧ w27.cell? ⟨w.heap.size, 1, none⟩ = some (.int .i64 ((f : Int))) ∧ w27.cell? ⟨w.heap.size + 1, 0, none⟩ = some (.bool shu) ∧ w27.cell? ⟨w.heap.size + 1, 1, none⟩ = some (.slice ahu nhu chu) ∧ w27.cell? ⟨w.heap.size + 1, 2, none⟩ = some (.slice Ahu Nhu Chu) from ⟨cc_0, cc_1, cconfidence_0, cconfidence_1, cconfidence_2⟩)
      refine U_takeN (i := 0) (d := 48) (v := ?_) rfl rfl rfl (by kernel_rfl) (by kernel_rfl) (by kernel_rfl) (fun _ _ _ h => h) (Or.inl ⟨by rfl, ?_⟩) hH ?_
      rotate_left
      · intro w hSw
        try dsimp only at hSw
        go_simp
        try with_reducible rfl
      simp only [LY]
      refine U_takeN (i := 1) (d := 49) (v := ?_) rfl rfl rfl (by kernel_rfl) (by kernel_rfl) (by kernel_rfl) (fun _ _ _ h => h) (Or.inl ⟨by rfl, ?_⟩) hH ?_
      rotate_left
      · intro w hSw
        try dsimp only at hSw
        go_simp
        try with_reducible rfl
      simp only [LY]
      refine U_takeN (i := 2) (d := 50) (v := ?_) rfl rfl rfl (by kernel_rfl) (by kernel_rfl) (by kernel_rfl) (fun _ _ _ h => h) (Or.inl ⟨by rfl, ?_⟩) hH ?_
      rotate_left
      · intro w hSw
        try dsimp only at hSw
        go_simp
        try with_reducible rfl
      simp only [LY]
      refine U_takeN (i := 4) (d := 52) (v := ?_) rfl rfl rfl (by kernel_rfl) (by kernel_rfl) (by kernel_rfl) (fun _ _ _ h => h) (Or.inl ⟨by rfl, ?_⟩) hH ?_
      rotate_left
      · intro w hSw
        try dsimp only at hSw
        go_simp
        try with_reducible rfl
      simp only [LY]
      clear hH
      refine U_one (i := 3) (by kernel_rfl) rfl (fun K hK => ?_)
      go_simp
      (with_reducible refine (al_at (i := md) _ Blsteps md2.out.symm (by omega) (by omega) (by omega)).mono ?_)
      rintro e w28 ⟨_, rfl, h7, hb⟩
      obtain ⟨sh7, ah7, nh7, ch7, Ah7, Nh7, Ch7, rfl⟩ := h7.shape
      replace hs := bStep hs hb
      replace Blc := Blc.mono hb
      replace Blconfidence := Blconfidence.mono hb
      replace Blk := Blk.mono hb
      replace Blsteps := Blsteps.mono hb
      replace hu := hu.mono hb
      replace cc_0 := cellK cc_0 hb
      replace cc_1 := cellK cc_1 hb
      replace cconfidence_0 := cellK cconfidence_0 hb
      replace cconfidence_1 := cellK cconfidence_1 hb
      replace cconfidence_2 := cellK cconfidence_2 hb
      clear hb
      try go_wp2_with fail
      refine hK.out _ _ ⟨cc_0, cc_1, cconfidence_0, cconfidence_1, cconfidence_2⟩ (fun hH => ?_)
      clear hK K
      try simp only [LY]
      clear hH
      refine U_one (i := 5) (by kernel_rfl) rfl (fun K hK => ?_)
      go_simp
      (with_reducible refine (cl_proves _ (by omega) h7 (atQs_sz (s := S) (i := md) (by omega) (by omega) (by omega)) (atQs_bd (s := S) (i := md) (by omega) (by omega)).1 (atQs_bd (s := S) (i := md) (by omega) (by omega)).2 hu su Hb8.out.symm).mono ?_)
      rintro e w29 ⟨rfl, hb⟩
      replace hs := bStep hs hb
      replace Blc := Blc.mono hb
      replace Blconfidence := Blconfidence.mono hb
      replace Blk := Blk.mono hb
      replace Blsteps := Blsteps.mono hb
      replace hu := hu.mono hb
      replace h7 := h7.mono hb
      replace cc_0 := cellK cc_0 hb
      replace cc_1 := cellK cc_1 hb
      replace cconfidence_0 := cellK cconfidence_0 hb
      replace cconfidence_1 := cellK cconfidence_1 hb
      replace cconfidence_2 := cellK cconfidence_2 hb
      clear hb
      try go_wp2_with fail
      refine hK.out _ _ ⟨cc_0, cc_1, cconfidence_0, cconfidence_1, cconfidence_2⟩ (fun hH => ?_)
      clear hK K
      try simp only [LY]
      clear hH
      refine U_endN (by kernel_rfl) ?_
      clear cc_0 cc_1 cconfidence_0 cconfidence_1 cconfidence_2
      by_cases q9 : prvQ n f u (atQs S md) = true
      · obtain rfl : b8 = true := by rw [Hb8.out]; exact q9
        have q9H := Lib.hid q9
        clear q9
        go_wp2
        go_roundw
        case rel => exact ⟨md, hi, by omega, by omega, congrArg _ md2.out.symm, rfl, Lib.hid ((bisQ_yes' (P := (fun i => prvQ n f u (atQs S i))) hmd.out (by omega) (show prvQ n f u (atQs S md) = true from q9H.out)).symm.trans HI.out), hs, Blc, Blconfidence, Blk, Blsteps, hu⟩
        all_goals first | (have := md2.out; simp [intOf]; done) | (have := md2.out; simp [intOf]; omega)
      · obtain rfl : b8 = false := by rw [Hb8.out]; simpa using q9
        have q9H := Lib.hid q9
        clear q9
        go_wp2
        go_roundw
        case rel => exact ⟨lo, md, by omega, by omega, rfl, congrArg _ md2.out.symm, Lib.hid ((bisQ_no' (P := (fun i => prvQ n f u (atQs S i))) hmd.out (by omega) (show prvQ n f u (atQs S md) = false from (by simpa using q9H.out))).symm.trans HI.out), hs, Blc, Blconfidence, Blk, Blsteps, hu⟩
        all_goals first | (have := md2.out; simp [intOf]; done) | (have := md2.out; simp [intOf]; omega)
    · have q6d : ((1 : Int) < (hi : Int) - (lo : Int)) = False := eq_false (by omega)
      have HE := Lib.hid ((bisQ_end (P := (fun i => prvQ n f u (atQs S i))) (show hi ≤ lo + 1 by omega)).symm.trans HI.out)
      go_wp2_with fail
      with_reducible refine (al_at (i := lo) _ Blsteps (by omega) (by omega) (by omega) (by omega)).mono ?_
      rintro e w27 ⟨_, rfl, h7, hb⟩
      obtain ⟨sh7, ah7, nh7, ch7, Ah7, Nh7, Ch7, rfl⟩ := h7.shape
      replace hs := bStep hs hb
      replace Blc := Blc.mono hb
      replace Blconfidence := Blconfidence.mono hb
      replace Blk := Blk.mono hb
      replace Blsteps := Blsteps.mono hb
      replace hu := hu.mono hb
      clear hb
      go_wp2_with fail
      with_reducible refine (al_at (i := (lo + 1)) _ Blsteps (by omega) (by omega) (by omega) (by omega)).mono ?_
      rintro e w28 ⟨_, rfl, h8, hb⟩
      obtain ⟨sh8, ah8, nh8, ch8, Ah8, Nh8, Ch8, rfl⟩ := h8.shape
      replace hs := bStep hs hb
      replace Blc := Blc.mono hb
      replace Blconfidence := Blconfidence.mono hb
      replace Blk := Blk.mono hb
      replace Blsteps := Blsteps.mono hb
      replace hu := hu.mono hb
      replace h7 := h7.mono hb
      clear hb
      go_wp2_with fail
      with_reducible refine (p_Make_le _ _ _ _ _ h7 (SzQ.mid (atQs_sz (s := S) (i := lo) (by omega) (by omega) (by omega))) h8 (SzQ.mid (atQs_sz (s := S) (i := (lo + 1)) (by omega) (by omega) (by omega))) (Rat.le_of_lt (atQs_lt (by omega)))).mono ?_
      rintro e w29 ⟨_, _, rfl, h9, rfl, hb⟩
      obtain ⟨sh9a, ah9a, nh9a, ch9a, Ah9a, Nh9a, Ch9a, sh9b, ah9b, nh9b, ch9b, Ah9b, Nh9b, Ch9b, rfl, h9a, h9b⟩ := h9.shape
      replace hs := bStep hs hb
      replace Blc := Blc.mono hb
      replace Blconfidence := Blconfidence.mono hb
      replace Blk := Blk.mono hb
      replace Blsteps := Blsteps.mono hb
      replace hu := hu.mono hb
      replace h7 := h7.mono hb
      replace h8 := h8.mono hb
      clear hb
      have ck_0 : w29.cell? ⟨w.heap.size + 1 + 1, 0, none⟩ = some (.bool false) := Blk.at 0 rfl
      have ck_1 : w29.cell? ⟨w.heap.size + 1 + 1, 1, none⟩ = some (.slice none 0 0) := Blk.at 1 rfl
      have ck_2 : w29.cell? ⟨w.heap.size + 1 + 1, 2, none⟩ = some (.slice none 0 0) := Blk.at 2 rfl
      have ck_3 : w29.cell? ⟨w.heap.size + 1 + 1, 3, none⟩ = some (.bool false) := Blk.at 3 rfl
      have ck_4 : w29.cell? ⟨w.heap.size + 1 + 1, 4, none⟩ = some (.slice none 0 0) := Blk.at 4 rfl
      have ck_5 : w29.cell? ⟨w.heap.size + 1 + 1, 5, none⟩ = some (.slice none 0 0) := Blk.at 5 rfl
      have fk := Blk.free
      have Lk : w.heap.size + 1 + 1 < w29.heap.size := Blk.lt
      go_wp2
      clear ck_0 ck_1 ck_2 ck_3 ck_4 ck_5 fk Lk
      refine bodyPost.abs ?_
      intro w30 hW
      have hG : Gr [w.heap.size + 1 + 1] w29 w30 := by rw [hW]; exact (Gr.refl _ _).set.set.set.set.set.set
      have hsz := hs.size
      have lk := Blk.lt
      have hbw : Below w.heap.size w29 w30 := hG.below1 hs.size (by first | omega | assumption)
      have hk : KeepD w29 w30 := hG.keep ⟨⟨_, Blk.ty, by decide⟩, True.intro⟩
      have Bl1k : Bx w30 (w.heap.size + 1 + 1) 50 #[.bool sh9a, .slice ah9a nh9a ch9a, .slice Ah9a Nh9a Ch9a, .bool sh9b, .slice ah9b nh9b ch9b, .slice Ah9b Nh9b Ch9b] := by rw [hW]; exact Blk.set6
      replace hs := hs.trans hbw
      replace Blc := hG.bx Blc (notMem1 (by omega))
      replace Blconfidence := hG.bx Blconfidence (notMem1 (by omega))
      replace Blsteps := hG.bx Blsteps (notMem1 (by omega))
      replace Blk := Bl1k
      clear Bl1k
      replace hu := hu.keep hk
      replace h7 := h7.keep hk
      replace h8 := h8.keep hk
      replace h9a := h9a.keep hk
      replace h9b := h9b.keep hk
      clear hW hG hk hbw hsz lk
      have ck_0 : w30.cell? ⟨w.heap.size + 1 + 1, 0, none⟩ = some (.bool sh9a) := Blk.at 0 rfl
      have ck_1 : w30.cell? ⟨w.heap.size + 1 + 1, 1, none⟩ = some (.slice ah9a nh9a ch9a) := Blk.at 1 rfl
      have ck_2 : w30.cell? ⟨w.heap.size + 1 + 1, 2, none⟩ = some (.slice Ah9a Nh9a Ch9a) := Blk.at 2 rfl
      have ck_3 : w30.cell? ⟨w.heap.size + 1 + 1, 3, none⟩ = some (.bool sh9b) := Blk.at 3 rfl
      have ck_4 : w30.cell? ⟨w.heap.size + 1 + 1, 4, none⟩ = some (.slice ah9b nh9b ch9b) := Blk.at 4 rfl
      have ck_5 : w30.cell? ⟨w.heap.size + 1 + 1, 5, none⟩ = some (.slice Ah9b Nh9b Ch9b) := Blk.at 5 rfl
      exact bodyPost_ret (v := .tuple #[.agg #[.bool sh9a, .slice ah9a nh9a ch9a, .slice Ah9a Nh9a Ch9a, .bool sh9b, .slice ah9b nh9b ch9b, .slice Ah9b Nh9b Ch9b], .int .i64 0]) (by simp [results, Try.results23, go_sem, ck_0, ck_1, ck_2, ck_3, ck_4, ck_5]) rfl ⟨_, _, rfl, (PV2.mk (h9a.of_eq (by rw [HE.out])) (h9b.of_eq (by rw [HE.out]))), rfl, hs⟩

end Go.Proofs.Ytmnipggjjcmjkaa
