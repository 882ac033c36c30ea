/-
  allow: a class's check, what it proves, Detected.
-/
import Derived.Test.YtmnipggjjcmjkaaGreatPkAlBQ
import Derived.Test.YtmnipggjjcmjkaaGreatPlainBisQ
import Derived.Test.YtmnipggjjcmjkaaGreatRangePQ
set_option linter.unusedSimpArgs false
set_option linter.unusedVariables false
namespace Go.Proofs.YtmnipggjjcmjkaaGreat
open Go.RowKit Dg
attribute [local go_sem ↓] Go.wp_at_zero Go.wp_at_succ


set_option maxRecDepth 100000 in
set_option maxHeartbeats 4000000 in
theorem cl_proves {v v' : Value} {p u : Rat} {n f : Nat} (w : World) (h2 : n ≤ 64) (hp : PV w v p) (sp : SzQ 1 p) (p0 : 0 ≤ p) (p1 : p ≤ 1) (hu : PV w v' u) (su : SzQ 1 u) {b : Bool} (hq : prvQ n f u p = b) :
    Calls Tryz.prog 91 #[.agg #[.int .i64 n, .int .i64 f], v, v'] w (RetV w (.bool b)) := by
  obtain ⟨shp, ahp, nhp, chp, Ahp, Nhp, Chp, rfl⟩ := hp.shape
  obtain ⟨shu, ahu, nhu, chu, Ahu, Nhu, Chu, rfl⟩ := hu.shape
  have hs := Below.refl w.heap.size w
  have HP := Lib.hid (And.intro p0 p1)
  have HT := Lib.hid ((tl_sz p0 p1 sp n f).mono (show n + 1 ≤ 100 by omega))
  have HQ := Lib.hid hq
  clear p0 p1 hq
  go_enter Tryz.func91, Tryz.ntmps91
  go_upto_region 1 with fail
  refine Code.abs ?_
  intro w1 hW
  have hG : Gr [] w w1 := by rw [hW]; exact (Gr.refl _ _).alloc.alloc.alloc
  have hbw : Below w.heap.size w w1 := hG.below0 hs.size
  have hk : KeepD w w1 := hG.keep True.intro
  have sz_w1 : w.heap.size ≤ w.heap.size := hs.size
  have Blc : Bx w1 (w.heap.size) 57 #[.int .i64 ((n : Int)), .int .i64 ((f : Int))] := by rw [hW]; exact (((Bx.new0 _ _ _).alloc _).alloc _)
  have Blp : Bx w1 (w.heap.size + 1) 29 #[.bool shp, .slice ahp nhp chp, .slice Ahp Nhp Chp] := by rw [hW]; exact ((Bx.new0 _ _ _).alloc _)
  have Blconfidence : Bx w1 (w.heap.size + 1 + 1) 29 #[.bool shu, .slice ahu nhu chu, .slice Ahu Nhu Chu] := by rw [hW]; exact (Bx.new0 _ _ _)
  replace hs := hs.trans hbw
  replace hp := hp.keep hk
  replace hu := hu.keep hk
  clear hW hG hk hbw
  have hz_w1 : w.heap.size + 1 + 1 < w1.heap.size := Blconfidence.lt
  obtain ⟨sg3, Hsg3⟩ : ∃ s : Int, s = sgQ ((tlQ p n f) - (1 - u)) := ⟨_, rfl⟩
  replace Hsg3 := Lib.hid Hsg3
  refine U_region (S := fun w' => w'.cell? ⟨w.heap.size, 0, none⟩ = some (.int .i64 ((n : Int))) ∧ w'.cell? ⟨w.heap.size, 1, none⟩ = some (.int .i64 ((f : Int))) ∧ w'.cell? ⟨w.heap.size + 1, 0, none⟩ = some (.bool shp) ∧ w'.cell? ⟨w.heap.size + 1, 1, none⟩ = some (.slice ahp nhp chp) ∧ w'.cell? ⟨w.heap.size + 1, 2, none⟩ = some (.slice Ahp Nhp Chp) ∧ w'.cell? ⟨w.heap.size + 1 + 1, 0, none⟩ = some (.bool shu) ∧ w'.cell? ⟨w.heap.size + 1 + 1, 1, none⟩ = some (.slice ahu nhu chu) ∧ w'.cell? ⟨w.heap.size + 1 + 1, 2, none⟩ = some (.slice Ahu Nhu Chu)) (by kernel_rfl) 11 ?_
  refine AnyU.abs ?_
  intro w2 hW
  have hb : Below w1.heap.size w1 w2 := by rw [hW]; exact bDrew _
  replace hs := bStep hs hb
  replace Blc := Blc.mono hb
  replace Blp := Blp.mono hb
  replace Blconfidence := Blconfidence.mono hb
  replace hp := hp.mono hb
  replace hu := hu.mono hb
  clear hb hW
  have cc_0 : w2.cell? ⟨w.heap.size, 0, none⟩ = some (.int .i64 ((n : Int))) := Blc.at 0 rfl
  have cc_1 : w2.cell? ⟨w.heap.size, 1, none⟩ = some (.int .i64 ((f : Int))) := Blc.at 1 rfl
  have cp_0 : w2.cell? ⟨w.heap.size + 1, 0, none⟩ = some (.bool shp) := Blp.at 0 rfl
  have cp_1 : w2.cell? ⟨w.heap.size + 1, 1, none⟩ = some (.slice ahp nhp chp) := Blp.at 1 rfl
  have cp_2 : w2.cell? ⟨w.heap.size + 1, 2, none⟩ = some (.slice Ahp Nhp Chp) := Blp.at 2 rfl
  have cconfidence_0 : w2.cell? ⟨w.heap.size + 1 + 1, 0, none⟩ = some (.bool shu) := Blconfidence.at 0 rfl
  have cconfidence_1 : w2.cell? ⟨w.heap.size + 1 + 1, 1, none⟩ = some (.slice ahu nhu chu) := Blconfidence.at 1 rfl
  have cconfidence_2 : w2.cell? ⟨w.heap.size + 1 + 1, 2, none⟩ = some (.slice Ahu Nhu Chu) := Blconfidence.at 2 rfl
  have hH := (show w2.cell? ⟨w.heap.size, 0, none⟩ = some (.int .i64 ((n : Int))) ∧ w2.cell? ⟨w.heap.size, 1, none⟩ = some (.int .i64 ((f : Int))) ∧ w2.cell? ⟨w.heap.size + 1, 0, none⟩ = some (.bool shp) ∧ w2.cell? ⟨w.heap.size + 1, 1, none⟩ = some (.slice ahp nhp chp) ∧ w2.cell? ⟨w.heap.size + 1, 2, none⟩ = some (.slice Ahp Nhp Chp) ∧ w2.cell? ⟨w.heap.size + 1 + 1, 0, none⟩ = some (.bool shu) ∧ w2.cell? ⟨w.heap.size + 1 + 1, 1, none⟩ = some (.slice ahu nhu chu) ∧ w2.cell? ⟨w.heap.size + 1 + 1, 2, none⟩ = some (.slice Ahu Nhu Chu) from ⟨cc_0, cc_1, cp_0, cp_1, cp_2, cconfidence_0, cconfidence_1, cconfidence_2⟩)
  refine U_takeN (i := 0) (d := 7) (v := ?_) rfl rfl rfl (by kernel_rfl) (by kernel_rfl) (by kernel_rfl) (fun _ _ _ h => h) (Or.inl ⟨by rfl, ?_⟩) hH ?_
  rotate_left
  · intro w hSw
    try dsimp only at hSw
    go_simp
    try with_reducible rfl
  simp only [LY]
  refine U_takeN (i := 1) (d := 8) (v := ?_) rfl rfl rfl (by kernel_rfl) (by kernel_rfl) (by kernel_rfl) (fun _ _ _ h => h) (Or.inl ⟨by rfl, ?_⟩) hH ?_
  rotate_left
  · intro w hSw
    try dsimp only at hSw
    go_simp
    try with_reducible rfl
  simp only [LY]
  refine U_takeN (i := 2) (d := 9) (v := ?_) rfl rfl rfl (by kernel_rfl) (by kernel_rfl) (by kernel_rfl) (fun _ _ _ h => h) (Or.inl ⟨by rfl, ?_⟩) hH ?_
  rotate_left
  · intro w hSw
    try dsimp only at hSw
    go_simp
    try with_reducible rfl
  simp only [LY]
  refine U_takeN (i := 3) (d := 10) (v := ?_) rfl rfl rfl (by kernel_rfl) (by kernel_rfl) (by kernel_rfl) (fun _ _ _ h => h) (Or.inl ⟨by rfl, ?_⟩) hH ?_
  rotate_left
  · intro w hSw
    try dsimp only at hSw
    go_simp
    try with_reducible rfl
  simp only [LY]
  refine U_takeN (i := 4) (d := 11) (v := ?_) rfl rfl rfl (by kernel_rfl) (by kernel_rfl) (by kernel_rfl) (fun _ _ _ h => h) (Or.inl ⟨by rfl, ?_⟩) hH ?_
  rotate_left
  · intro w hSw
    try dsimp only at hSw
    go_simp
    try with_reducible rfl
  simp only [LY]
  refine U_takeN (i := 6) (d := 13) (v := ?_) rfl rfl rfl (by kernel_rfl) (by kernel_rfl) (by kernel_rfl) (fun _ _ _ h => h) (Or.inl ⟨by rfl, ?_⟩) hH ?_
  rotate_left
  · intro w hSw
    try dsimp only at hSw
    go_simp
    try with_reducible rfl
  simp only [LY]
  clear hH
  refine U_one (i := 5) (by kernel_rfl) rfl (fun K hK => ?_)
  go_simp
  (with_reducible refine (al_tail (n := n) (k := (f : Int)) _ hp sp HP.out.1 HP.out.2 (by omega) (tailQ_nat n f p)).mono ?_)
  rintro e w3 ⟨_, rfl, h1, hb⟩
  obtain ⟨sh1, ah1, nh1, ch1, Ah1, Nh1, Ch1, rfl⟩ := h1.shape
  replace hs := bStep hs hb
  replace Blc := Blc.mono hb
  replace Blp := Blp.mono hb
  replace Blconfidence := Blconfidence.mono hb
  replace hp := hp.mono hb
  replace hu := hu.mono hb
  replace cc_0 := cellK cc_0 hb
  replace cc_1 := cellK cc_1 hb
  replace cp_0 := cellK cp_0 hb
  replace cp_1 := cellK cp_1 hb
  replace cp_2 := cellK cp_2 hb
  replace cconfidence_0 := cellK cconfidence_0 hb
  replace cconfidence_1 := cellK cconfidence_1 hb
  replace cconfidence_2 := cellK cconfidence_2 hb
  clear hb
  try go_wp2_with fail
  refine hK.out _ _ ⟨cc_0, cc_1, cp_0, cp_1, cp_2, cconfidence_0, cconfidence_1, cconfidence_2⟩ (fun hH => ?_)
  clear hK K
  try simp only [LY]
  clear hH
  refine U_one (i := 7) (by kernel_rfl) rfl (fun K hK => ?_)
  go_simp
  (with_reducible refine (al_less _ _ _ hu (SzQ.mid su)).mono ?_)
  rintro e w4 ⟨_, rfl, h2, hb⟩
  obtain ⟨sh2, ah2, nh2, ch2, Ah2, Nh2, Ch2, rfl⟩ := h2.shape
  replace hs := bStep hs hb
  replace Blc := Blc.mono hb
  replace Blp := Blp.mono hb
  replace Blconfidence := Blconfidence.mono hb
  replace hp := hp.mono hb
  replace hu := hu.mono hb
  replace h1 := h1.mono hb
  replace cc_0 := cellK cc_0 hb
  replace cc_1 := cellK cc_1 hb
  replace cp_0 := cellK cp_0 hb
  replace cp_1 := cellK cp_1 hb
  replace cp_2 := cellK cp_2 hb
  replace cconfidence_0 := cellK cconfidence_0 hb
  replace cconfidence_1 := cellK cconfidence_1 hb
  replace cconfidence_2 := cellK cconfidence_2 hb
  clear hb
  try go_wp2_with fail
  refine hK.out _ _ ⟨cc_0, cc_1, cp_0, cp_1, cp_2, cconfidence_0, cconfidence_1, cconfidence_2⟩ (fun hH => ?_)
  clear hK K
  try simp only [LY]
  clear hH
  refine U_one (i := 8) (by kernel_rfl) rfl (fun K hK => ?_)
  go_simp
  (with_reducible refine (pCmp h1 h2 (SzQ.fit HT.out) (SzQ.fit (SzQ.sub szQ_one su))).mono ?_)
  rintro e w5 ⟨rfl, hb⟩
  replace hs := bStep hs hb
  replace Blc := Blc.mono hb
  replace Blp := Blp.mono hb
  replace Blconfidence := Blconfidence.mono hb
  replace hp := hp.mono hb
  replace hu := hu.mono hb
  replace h1 := h1.mono hb
  replace h2 := h2.mono hb
  replace cc_0 := cellK cc_0 hb
  replace cc_1 := cellK cc_1 hb
  replace cp_0 := cellK cp_0 hb
  replace cp_1 := cellK cp_1 hb
  replace cp_2 := cellK cp_2 hb
  replace cconfidence_0 := cellK cconfidence_0 hb
  replace cconfidence_1 := cellK cconfidence_1 hb
  replace cconfidence_2 := cellK cconfidence_2 hb
  clear hb
  rw [← Hsg3.out]
  try go_wp2_with fail
  refine hK.out _ _ ⟨cc_0, cc_1, cp_0, cp_1, cp_2, cconfidence_0, cconfidence_1, cconfidence_2⟩ (fun hH => ?_)
  clear hK K
  try simp only [LY]
  refine U_takeN (i := 9) (d := 16) (v := ?_) rfl rfl rfl (by kernel_rfl) (by kernel_rfl) (by kernel_rfl) (fun _ _ _ h => h) (Or.inl ⟨by rfl, ?_⟩) hH ?_
  rotate_left
  · intro w hSw
    try dsimp only at hSw
    go_simp
    try with_reducible rfl
  simp only [LY]
  refine U_takeN (i := 10) (d := 6) (v := ?_) rfl rfl rfl (by kernel_rfl) (by kernel_rfl) (by kernel_rfl) (fun _ _ _ h => h) (Or.inl ⟨by rfl, ?_⟩) hH ?_
  rotate_left
  · intro w hSw
    try dsimp only at hSw
    go_simp
    try with_reducible rfl
  simp only [LY]
  clear hH
  refine U_endN (by kernel_rfl) ?_
  clear cc_0 cc_1 cp_0 cp_1 cp_2 cconfidence_0 cconfidence_1 cconfidence_2
  by_cases q4 : tlQ p n f ≤ 1 - u
  · have q4_ : sg3 ≤ 0 := by have h := sq_le (tlQ p n f) (1 - u); rw [← Hsg3.out] at h; exact h.2 q4
    have q4H := Lib.hid q4
    clear q4
    have q4d : decide (sg3 ≤ 0) = true := decide_eq_true q4_
    try simp only [q4d]
    go_wp2
    go_ret
    exact ⟨by rw [← HQ.out]; unfold prvQ; rw [decide_eq_true q4H.out]; rfl, hs⟩
  · have q4_ : ¬ (sg3 ≤ 0) := by have h := sq_le (tlQ p n f) (1 - u); rw [← Hsg3.out] at h; exact fun h1 => q4 (h.1 h1)
    have q4H := Lib.hid q4
    clear q4
    have q4d : decide (sg3 ≤ 0) = false := decide_eq_false q4_
    try simp only [q4d]
    go_wp2
    go_ret
    exact ⟨by rw [← HQ.out]; unfold prvQ; rw [decide_eq_false q4H.out]; rfl, hs⟩

theorem al_New_e {n d : Int} {f : Rat} (w : World) (h : (n : Rat) / (d : Rat) = f) (h1 : 0 ≤ n) (h2 : n ≤ 4294967295) (h3 : 1 ≤ d) (h4 : d ≤ 4294967295) : Calls Tryz.prog 66 #[.int .i64 n, .int .i64 d] w (RetPE w f 0) := by
  subst h
  exact p_New_calls n d w (by omega) (by omega) (by omega) (by omega) (by omega)




end Go.Proofs.YtmnipggjjcmjkaaGreat
