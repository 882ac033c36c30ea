/-
  Tails, ranks, coupons at whatever numbers.
-/
import Derived.Test.YtlmemilmhdhgbaaGreatAlT0O
import Derived.Test.YtlmemilmhdhgbaaGreatAlR2O
set_option linter.unusedSimpArgs false
set_option linter.unusedVariables false
set_option maxRecDepth 100000
set_option maxHeartbeats 4000000
namespace Go.Proofs.YtlmemilmhdhgbaaGreat
open Go.RowKit Dg
attribute [local go_sem ↓] Go.wp_at_zero Go.wp_at_succ
theorem al_Rank_bad1 {v v' : Value} {u c : Rat} {n : Int} (w : World) (hu : PV w v u) (su : SzQ 1 u) (hc : PV w v' c) (sc : SzQ 1 c) (hn : n < 1) : Calls Tryz.prog 25 #[.int .i64 n, v, v'] w (RetV w (.tuple #[.int .i64 0, .int .i64 1])) := by
  obtain ⟨shu, ahu, nhu, chu, Ahu, Nhu, Chu, rfl⟩ := hu.shape
  obtain ⟨shc, ahc, nhc, chc, Ahc, Nhc, Chc, rfl⟩ := hc.shape
  have hs := Below.refl w.heap.size w
  go_enter Tryz.func25, Tryz.ntmps25
  have q1 : n < 1 := (by omega)
  have q1d : (n < 1) = True := eq_true (by omega)
  go_wp2
  refine bodyPost.abs ?_
  intro w1 hW
  have hG : Gr [] w w1 := by rw [hW]; exact (Gr.refl _ _).alloc.alloc
  have hbw : Below w.heap.size w w1 := hG.below0 hs.size
  have hk : KeepD w w1 := hG.keep True.intro
  have sz_w1 : w.heap.size ≤ w.heap.size := hs.size
  have B1 : Bx w1 (w.heap.size) 34 #[.bool shu, .slice ahu nhu chu, .slice Ahu Nhu Chu] := by rw [hW]; exact ((Bx.new0 _ _ _).alloc _)
  have B0 : Bx w1 (w.heap.size + 1) 34 #[.bool shc, .slice ahc nhc chc, .slice Ahc Nhc Chc] := by rw [hW]; exact (Bx.new0 _ _ _)
  replace hs := hs.trans hbw
  replace hu := hu.keep hk
  replace hc := hc.keep hk
  clear hW hG hk hbw
  have hz_w1 : w.heap.size + 1 < w1.heap.size := B0.lt
  go_ret2
  exact ⟨rfl, hs⟩
theorem al_Rank_bad2 {v v' : Value} {u c : Rat} {n : Int} (w : World) (hu : PV w v u) (su : SzQ 1 u) (hc : PV w v' c) (sc : SzQ 1 c) (hn : 64 < n) : Calls Tryz.prog 25 #[.int .i64 n, v, v'] w (RetV w (.tuple #[.int .i64 0, .int .i64 1])) := by
  obtain ⟨shu, ahu, nhu, chu, Ahu, Nhu, Chu, rfl⟩ := hu.shape
  obtain ⟨shc, ahc, nhc, chc, Ahc, Nhc, Chc, rfl⟩ := hc.shape
  have hs := Below.refl w.heap.size w
  go_enter Tryz.func25, Tryz.ntmps25
  have q1 : ¬ (n < 1) := (by omega)
  have q1d : (n < 1) = False := eq_false (by omega)
  have q2 : 64 < n := (by omega)
  have q2d : ((64 : Int) < n) = True := eq_true (by omega)
  go_wp2
  refine bodyPost.abs ?_
  intro w1 hW
  have hG : Gr [] w w1 := by rw [hW]; exact (Gr.refl _ _).alloc.alloc
  have hbw : Below w.heap.size w w1 := hG.below0 hs.size
  have hk : KeepD w w1 := hG.keep True.intro
  have sz_w1 : w.heap.size ≤ w.heap.size := hs.size
  have B1 : Bx w1 (w.heap.size) 34 #[.bool shu, .slice ahu nhu chu, .slice Ahu Nhu Chu] := by rw [hW]; exact ((Bx.new0 _ _ _).alloc _)
  have B0 : Bx w1 (w.heap.size + 1) 34 #[.bool shc, .slice ahc nhc chc, .slice Ahc Nhc Chc] := by rw [hW]; exact (Bx.new0 _ _ _)
  replace hs := hs.trans hbw
  replace hu := hu.keep hk
  replace hc := hc.keep hk
  clear hW hG hk hbw
  have hz_w1 : w.heap.size + 1 < w1.heap.size := B0.lt
  go_ret2
  exact ⟨rfl, hs⟩
theorem al_Rank_bad3 {v v' : Value} {u c : Rat} {n : Int} (w : World) (hu : PV w v u) (su : SzQ 1 u) (hc : PV w v' c) (sc : SzQ 1 c) (hn : 1 ≤ n) (hn2 : n ≤ 64) (hu0 : ¬ (0 ≤ u ∧ u ≤ 1)) : Calls Tryz.prog 25 #[.int .i64 n, v, v'] w (RetV w (.tuple #[.int .i64 0, .int .i64 1])) := by
  obtain ⟨shu, ahu, nhu, chu, Ahu, Nhu, Chu, rfl⟩ := hu.shape
  obtain ⟨shc, ahc, nhc, chc, Ahc, Nhc, Chc, rfl⟩ := hc.shape
  have hs := Below.refl w.heap.size w
  have HU := Lib.hid hu0
  clear hu0
  go_enter Tryz.func25, Tryz.ntmps25
  have q1 : ¬ (n < 1) := (by omega)
  have q1d : (n < 1) = False := eq_false (by omega)
  have q2 : ¬ (64 < n) := (by omega)
  have q2d : ((64 : Int) < n) = False := eq_false (by omega)
  go_wp2_with fail
  refine Calls.abs ?_
  intro w1 hW
  have hG : Gr [] w w1 := by rw [hW]; exact (Gr.refl _ _).alloc.alloc
  have hbw : Below w.heap.size w w1 := hG.below0 hs.size
  have hk : KeepD w w1 := hG.keep True.intro
  have sz_w1 : w.heap.size ≤ w.heap.size := hs.size
  have B1 : Bx w1 (w.heap.size) 34 #[.bool shu, .slice ahu nhu chu, .slice Ahu Nhu Chu] := by rw [hW]; exact ((Bx.new0 _ _ _).alloc _)
  have B0 : Bx w1 (w.heap.size + 1) 34 #[.bool shc, .slice ahc nhc chc, .slice Ahc Nhc Chc] := by rw [hW]; exact (Bx.new0 _ _ _)
  replace hs := hs.trans hbw
  replace hu := hu.keep hk
  replace hc := hc.keep hk
  clear hW hG hk hbw
  have hz_w1 : w.heap.size + 1 < w1.heap.size := B0.lt
  with_reducible refine (al_isChance _ _ _ hu (SzQ.mid su) rfl).mono ?_
  rintro e w2 ⟨rfl, hb⟩
  replace hs := bStep hs hb
  replace B1 := B1.mono hb
  replace B0 := B0.mono hb
  replace hu := hu.mono hb
  replace hc := hc.mono hb
  clear hb
  obtain ⟨b3, Hb3⟩ : ∃ b : Bool, b = decide (0 ≤ u ∧ u ≤ 1) := ⟨_, rfl⟩
  rw [← Hb3]
  replace Hb3 := Lib.hid Hb3
  have q4 : ¬ (0 ≤ u ∧ u ≤ 1) := HU.out
  obtain rfl : b3 = false := by rw [Hb3.out]; exact decide_eq_false q4
  have q4H := Lib.hid q4
  clear q4
  go_wp2
  go_ret2
  exact ⟨rfl, hs⟩
theorem al_Rank_bad4 {v v' : Value} {u c : Rat} {n : Int} (w : World) (hu : PV w v u) (su : SzQ 1 u) (hc : PV w v' c) (sc : SzQ 1 c) (hn : 1 ≤ n) (hn2 : n ≤ 64) (hu0 : 0 ≤ u ∧ u ≤ 1) (hc0 : ¬ (0 ≤ c ∧ c ≤ 1)) : Calls Tryz.prog 25 #[.int .i64 n, v, v'] w (RetV w (.tuple #[.int .i64 0, .int .i64 1])) := by
  obtain ⟨shu, ahu, nhu, chu, Ahu, Nhu, Chu, rfl⟩ := hu.shape
  obtain ⟨shc, ahc, nhc, chc, Ahc, Nhc, Chc, rfl⟩ := hc.shape
  have hs := Below.refl w.heap.size w
  have HU := Lib.hid hu0
  clear hu0
  have HC := Lib.hid hc0
  clear hc0
  go_enter Tryz.func25, Tryz.ntmps25
  have q1 : ¬ (n < 1) := (by omega)
  have q1d : (n < 1) = False := eq_false (by omega)
  have q2 : ¬ (64 < n) := (by omega)
  have q2d : ((64 : Int) < n) = False := eq_false (by omega)
  go_wp2_with fail
  refine Calls.abs ?_
  intro w1 hW
  have hG : Gr [] w w1 := by rw [hW]; exact (Gr.refl _ _).alloc.alloc
  have hbw : Below w.heap.size w w1 := hG.below0 hs.size
  have hk : KeepD w w1 := hG.keep True.intro
  have sz_w1 : w.heap.size ≤ w.heap.size := hs.size
  have B1 : Bx w1 (w.heap.size) 34 #[.bool shu, .slice ahu nhu chu, .slice Ahu Nhu Chu] := by rw [hW]; exact ((Bx.new0 _ _ _).alloc _)
  have B0 : Bx w1 (w.heap.size + 1) 34 #[.bool shc, .slice ahc nhc chc, .slice Ahc Nhc Chc] := by rw [hW]; exact (Bx.new0 _ _ _)
  replace hs := hs.trans hbw
  replace hu := hu.keep hk
  replace hc := hc.keep hk
  clear hW hG hk hbw
  have hz_w1 : w.heap.size + 1 < w1.heap.size := B0.lt
  with_reducible refine (al_isChance _ _ _ hu (SzQ.mid su) rfl).mono ?_
  rintro e w2 ⟨rfl, hb⟩
  replace hs := bStep hs hb
  replace B1 := B1.mono hb
  replace B0 := B0.mono hb
  replace hu := hu.mono hb
  replace hc := hc.mono hb
  clear hb
  obtain ⟨b3, Hb3⟩ : ∃ b : Bool, b = decide (0 ≤ u ∧ u ≤ 1) := ⟨_, rfl⟩
  rw [← Hb3]
  replace Hb3 := Lib.hid Hb3
  have q4 : 0 ≤ u ∧ u ≤ 1 := HU.out
  obtain rfl : b3 = true := by rw [Hb3.out]; exact decide_eq_true q4
  have q4H := Lib.hid q4
  clear q4
  have B2 : w2.cell? ⟨w.heap.size + 1, 0, none⟩ = some (.bool shc) := B0.at 0 rfl
  have B3 : w2.cell? ⟨w.heap.size + 1, 1, none⟩ = some (.slice ahc nhc chc) := B0.at 1 rfl
  have B4 : w2.cell? ⟨w.heap.size + 1, 2, none⟩ = some (.slice Ahc Nhc Chc) := B0.at 2 rfl
  have Lconfidence : w.heap.size + 1 < w2.heap.size := B0.lt
  go_wp2_with fail
  clear B2 B3 B4 Lconfidence
  with_reducible refine (al_isChance _ _ _ hc (SzQ.mid sc) rfl).mono ?_
  rintro e w3 ⟨rfl, hb⟩
  replace hs := bStep hs hb
  replace B1 := B1.mono hb
  replace B0 := B0.mono hb
  replace hu := hu.mono hb
  replace hc := hc.mono hb
  clear hb
  obtain ⟨b5, Hb5⟩ : ∃ b : Bool, b = decide (0 ≤ c ∧ c ≤ 1) := ⟨_, rfl⟩
  rw [← Hb5]
  replace Hb5 := Lib.hid Hb5
  have q6 : ¬ (0 ≤ c ∧ c ≤ 1) := HC.out
  obtain rfl : b5 = false := by rw [Hb5.out]; exact decide_eq_false q6
  have q6H := Lib.hid q6
  clear q6
  go_wp2
  go_ret2
  exact ⟨rfl, hs⟩
theorem r8_Rank_bad1 {v v' : Value} {u c : Rat} {n : Int} (w : World) (hu : RV w v u) (su : SzQ 1 u) (hc : RV w v' c) (sc : SzQ 1 c) (hn : n < 1) : Calls Tryz.prog 30 #[.int .i64 n, v, v'] w (RetV w (.tuple #[.int .i64 0, .int .i64 1])) := by
  obtain ⟨shu, ahu, nhu, chu, Ahu, Nhu, Chu, rfl⟩ := hu.shape
  obtain ⟨shc, ahc, nhc, chc, Ahc, Nhc, Chc, rfl⟩ := hc.shape
  have hs := Below.refl w.heap.size w
  go_enter Tryz.func30, Tryz.ntmps30
  have q1 : n < 1 := (by omega)
  have q1d : (n < 1) = True := eq_true (by omega)
  go_wp2
  refine bodyPost.abs ?_
  intro w1 hW
  have hG : Gr [] w w1 := by rw [hW]; exact (Gr.refl _ _).alloc.alloc
  have hbw : Below w.heap.size w w1 := hG.below0 hs.size
  have hk : KeepD w w1 := hG.keep True.intro
  have sz_w1 : w.heap.size ≤ w.heap.size := hs.size
  have B1 : Bx w1 (w.heap.size) 41 #[.bool shu, .slice ahu nhu chu, .slice Ahu Nhu Chu] := by rw [hW]; exact ((Bx.new0 _ _ _).alloc _)
  have B0 : Bx w1 (w.heap.size + 1) 41 #[.bool shc, .slice ahc nhc chc, .slice Ahc Nhc Chc] := by rw [hW]; exact (Bx.new0 _ _ _)
  replace hs := hs.trans hbw
  replace hu := hu.keep hk
  replace hc := hc.keep hk
  clear hW hG hk hbw
  have hz_w1 : w.heap.size + 1 < w1.heap.size := B0.lt
  go_ret2
  exact ⟨rfl, hs⟩
theorem r8_Rank_bad2 {v v' : Value} {u c : Rat} {n : Int} (w : World) (hu : RV w v u) (su : SzQ 1 u) (hc : RV w v' c) (sc : SzQ 1 c) (hn : 64 < n) : Calls Tryz.prog 30 #[.int .i64 n, v, v'] w (RetV w (.tuple #[.int .i64 0, .int .i64 1])) := by
  obtain ⟨shu, ahu, nhu, chu, Ahu, Nhu, Chu, rfl⟩ := hu.shape
  obtain ⟨shc, ahc, nhc, chc, Ahc, Nhc, Chc, rfl⟩ := hc.shape
  have hs := Below.refl w.heap.size w
  go_enter Tryz.func30, Tryz.ntmps30
  have q1 : ¬ (n < 1) := (by omega)
  have q1d : (n < 1) = False := eq_false (by omega)
  have q2 : 64 < n := (by omega)
  have q2d : ((64 : Int) < n) = True := eq_true (by omega)
  go_wp2
  refine bodyPost.abs ?_
  intro w1 hW
  have hG : Gr [] w w1 := by rw [hW]; exact (Gr.refl _ _).alloc.alloc
  have hbw : Below w.heap.size w w1 := hG.below0 hs.size
  have hk : KeepD w w1 := hG.keep True.intro
  have sz_w1 : w.heap.size ≤ w.heap.size := hs.size
  have B1 : Bx w1 (w.heap.size) 41 #[.bool shu, .slice ahu nhu chu, .slice Ahu Nhu Chu] := by rw [hW]; exact ((Bx.new0 _ _ _).alloc _)
  have B0 : Bx w1 (w.heap.size + 1) 41 #[.bool shc, .slice ahc nhc chc, .slice Ahc Nhc Chc] := by rw [hW]; exact (Bx.new0 _ _ _)
  replace hs := hs.trans hbw
  replace hu := hu.keep hk
  replace hc := hc.keep hk
  clear hW hG hk hbw
  have hz_w1 : w.heap.size + 1 < w1.heap.size := B0.lt
  go_ret2
  exact ⟨rfl, hs⟩
theorem r8_Rank_bad3 {v v' : Value} {u c : Rat} {n : Int} (w : World) (hu : RV w v u) (su : SzQ 1 u) (hc : RV w v' c) (sc : SzQ 1 c) (hn : 1 ≤ n) (hn2 : n ≤ 64) (hu0 : ¬ (0 ≤ u ∧ u ≤ 1)) : Calls Tryz.prog 30 #[.int .i64 n, v, v'] w (RetV w (.tuple #[.int .i64 0, .int .i64 1])) := by
  obtain ⟨shu, ahu, nhu, chu, Ahu, Nhu, Chu, rfl⟩ := hu.shape
  obtain ⟨shc, ahc, nhc, chc, Ahc, Nhc, Chc, rfl⟩ := hc.shape
  have hs := Below.refl w.heap.size w
  have HU := Lib.hid hu0
  clear hu0
  go_enter Tryz.func30, Tryz.ntmps30
  have q1 : ¬ (n < 1) := (by omega)
  have q1d : (n < 1) = False := eq_false (by omega)
  have q2 : ¬ (64 < n) := (by omega)
  have q2d : ((64 : Int) < n) = False := eq_false (by omega)
  go_wp2_with fail
  refine Calls.abs ?_
  intro w1 hW
  have hG : Gr [] w w1 := by rw [hW]; exact (Gr.refl _ _).alloc.alloc
  have hbw : Below w.heap.size w w1 := hG.below0 hs.size
  have hk : KeepD w w1 := hG.keep True.intro
  have sz_w1 : w.heap.size ≤ w.heap.size := hs.size
  have B1 : Bx w1 (w.heap.size) 41 #[.bool shu, .slice ahu nhu chu, .slice Ahu Nhu Chu] := by rw [hW]; exact ((Bx.new0 _ _ _).alloc _)
  have B0 : Bx w1 (w.heap.size + 1) 41 #[.bool shc, .slice ahc nhc chc, .slice Ahc Nhc Chc] := by rw [hW]; exact (Bx.new0 _ _ _)
  replace hs := hs.trans hbw
  replace hu := hu.keep hk
  replace hc := hc.keep hk
  clear hW hG hk hbw
  have hz_w1 : w.heap.size + 1 < w1.heap.size := B0.lt
  with_reducible refine (r8_Chance _ _ _ hu (SzQ.mid su) rfl).mono ?_
  rintro e w2 ⟨rfl, hb⟩
  replace hs := bStep hs hb
  replace B1 := B1.mono hb
  replace B0 := B0.mono hb
  replace hu := hu.mono hb
  replace hc := hc.mono hb
  clear hb
  obtain ⟨b3, Hb3⟩ : ∃ b : Bool, b = decide (0 ≤ u ∧ u ≤ 1) := ⟨_, rfl⟩
  rw [← Hb3]
  replace Hb3 := Lib.hid Hb3
  have q4 : ¬ (0 ≤ u ∧ u ≤ 1) := HU.out
  obtain rfl : b3 = false := by rw [Hb3.out]; exact decide_eq_false q4
  have q4H := Lib.hid q4
  clear q4
  go_wp2
  go_ret2
  exact ⟨rfl, hs⟩
theorem r8_Rank_bad4 {v v' : Value} {u c : Rat} {n : Int} (w : World) (hu : RV w v u) (su : SzQ 1 u) (hc : RV w v' c) (sc : SzQ 1 c) (hn : 1 ≤ n) (hn2 : n ≤ 64) (hu0 : 0 ≤ u ∧ u ≤ 1) (hc0 : ¬ (0 ≤ c ∧ c ≤ 1)) : Calls Tryz.prog 30 #[.int .i64 n, v, v'] w (RetV w (.tuple #[.int .i64 0, .int .i64 1])) := by
  obtain ⟨shu, ahu, nhu, chu, Ahu, Nhu, Chu, rfl⟩ := hu.shape
  obtain ⟨shc, ahc, nhc, chc, Ahc, Nhc, Chc, rfl⟩ := hc.shape
  have hs := Below.refl w.heap.size w
  have HU := Lib.hid hu0
  clear hu0
  have HC := Lib.hid hc0
  clear hc0
  go_enter Tryz.func30, Tryz.ntmps30
  have q1 : ¬ (n < 1) := (by omega)
  have q1d : (n < 1) = False := eq_false (by omega)
  have q2 : ¬ (64 < n) := (by omega)
  have q2d : ((64 : Int) < n) = False := eq_false (by omega)
  go_wp2_with fail
  refine Calls.abs ?_
  intro w1 hW
  have hG : Gr [] w w1 := by rw [hW]; exact (Gr.refl _ _).alloc.alloc
  have hbw : Below w.heap.size w w1 := hG.below0 hs.size
  have hk : KeepD w w1 := hG.keep True.intro
  have sz_w1 : w.heap.size ≤ w.heap.size := hs.size
  have B1 : Bx w1 (w.heap.size) 41 #[.bool shu, .slice ahu nhu chu, .slice Ahu Nhu Chu] := by rw [hW]; exact ((Bx.new0 _ _ _).alloc _)
  have B0 : Bx w1 (w.heap.size + 1) 41 #[.bool shc, .slice ahc nhc chc, .slice Ahc Nhc Chc] := by rw [hW]; exact (Bx.new0 _ _ _)
  replace hs := hs.trans hbw
  replace hu := hu.keep hk
  replace hc := hc.keep hk
  clear hW hG hk hbw
  have hz_w1 : w.heap.size + 1 < w1.heap.size := B0.lt
  with_reducible refine (r8_Chance _ _ _ hu (SzQ.mid su) rfl).mono ?_
  rintro e w2 ⟨rfl, hb⟩
  replace hs := bStep hs hb
  replace B1 := B1.mono hb
  replace B0 := B0.mono hb
  replace hu := hu.mono hb
  replace hc := hc.mono hb
  clear hb
  obtain ⟨b3, Hb3⟩ : ∃ b : Bool, b = decide (0 ≤ u ∧ u ≤ 1) := ⟨_, rfl⟩
  rw [← Hb3]
  replace Hb3 := Lib.hid Hb3
  have q4 : 0 ≤ u ∧ u ≤ 1 := HU.out
  obtain rfl : b3 = true := by rw [Hb3.out]; exact decide_eq_true q4
  have q4H := Lib.hid q4
  clear q4
  have B2 : w2.cell? ⟨w.heap.size + 1, 0, none⟩ = some (.bool shc) := B0.at 0 rfl
  have B3 : w2.cell? ⟨w.heap.size + 1, 1, none⟩ = some (.slice ahc nhc chc) := B0.at 1 rfl
  have B4 : w2.cell? ⟨w.heap.size + 1, 2, none⟩ = some (.slice Ahc Nhc Chc) := B0.at 2 rfl
  have Lconfidence : w.heap.size + 1 < w2.heap.size := B0.lt
  go_wp2_with fail
  clear B2 B3 B4 Lconfidence
  with_reducible refine (r8_Chance _ _ _ hc (SzQ.mid sc) rfl).mono ?_
  rintro e w3 ⟨rfl, hb⟩
  replace hs := bStep hs hb
  replace B1 := B1.mono hb
  replace B0 := B0.mono hb
  replace hu := hu.mono hb
  replace hc := hc.mono hb
  clear hb
  obtain ⟨b5, Hb5⟩ : ∃ b : Bool, b = decide (0 ≤ c ∧ c ≤ 1) := ⟨_, rfl⟩
  rw [← Hb5]
  replace Hb5 := Lib.hid Hb5
  have q6 : ¬ (0 ≤ c ∧ c ≤ 1) := HC.out
  obtain rfl : b5 = false := by rw [Hb5.out]; exact decide_eq_false q6
  have q6H := Lib.hid q6
  clear q6
  go_wp2
  go_ret2
  exact ⟨rfl, hs⟩
def rkWrong (n : Int) (u c : Rat) : Prop := n < 1 ∨ 64 < n ∨ ¬ (0 ≤ u ∧ u ≤ 1) ∨ ¬ (0 ≤ c ∧ c ≤ 1)
instance (n : Int) (u c : Rat) : Decidable (rkWrong n u c) := by unfold rkWrong; infer_instance
def rkV (n : Int) (u c : Rat) : Int := if rkWrong n u c then 0 else rkF (1 - u) n.toNat c n.toNat
def rkEr (n : Int) (u c : Rat) : Int := if rkWrong n u c then 1 else rkE (rkF (1 - u) n.toNat c n.toNat)
theorem al_Rank_all {v v' : Value} {u c : Rat} {n : Int} (w : World) (hu : PV w v u) (su : SzQ 1 u) (hc : PV w v' c) (sc : SzQ 1 c) {r e : Int} (hr : rkV n u c = r) (he : rkEr n u c = e) : Calls Tryz.prog 25 #[.int .i64 n, v, v'] w (RetV w (.tuple #[.int .i64 r, .int .i64 e])) := by
  subst hr he
  by_cases h1 : n < 1
  · have h : rkWrong n u c := .inl h1
    unfold rkV rkEr; rw [if_pos h, if_pos h]; exact al_Rank_bad1 w hu su hc sc h1
  · by_cases h2 : 64 < n
    · have h : rkWrong n u c := .inr (.inl h2)
      unfold rkV rkEr; rw [if_pos h, if_pos h]; exact al_Rank_bad2 w hu su hc sc h2
    · by_cases h3 : 0 ≤ u ∧ u ≤ 1
      · by_cases h4 : 0 ≤ c ∧ c ≤ 1
        · have h : ¬ rkWrong n u c := fun x => by rcases x with x | x | x | x; exact h1 x; exact h2 x; exact x h3; exact x h4
          unfold rkV rkEr
          rw [if_neg h, if_neg h]
          obtain ⟨m, rfl⟩ : ∃ m : Nat, n = m := ⟨n.toNat, by omega⟩
          exact al_Rank_ok w hu su h3.1 h3.2 hc sc h4.1 h4.2 (by omega) (by omega) rfl rfl
        · have h : rkWrong n u c := .inr (.inr (.inr h4))
          unfold rkV rkEr; rw [if_pos h, if_pos h]; exact al_Rank_bad4 w hu su hc sc (by omega) (by omega) h3 h4
      · have h : rkWrong n u c := .inr (.inr (.inl h3))
        unfold rkV rkEr; rw [if_pos h, if_pos h]; exact al_Rank_bad3 w hu su hc sc (by omega) (by omega) h3
theorem r8_Rank_all {v v' : Value} {u c : Rat} {n : Int} (w : World) (hu : RV w v u) (su : SzQ 1 u) (hc : RV w v' c) (sc : SzQ 1 c) {r e : Int} (hr : rkV n u c = r) (he : rkEr n u c = e) : Calls Tryz.prog 30 #[.int .i64 n, v, v'] w (RetV w (.tuple #[.int .i64 r, .int .i64 e])) := by
  subst hr he
  by_cases h1 : n < 1
  · have h : rkWrong n u c := .inl h1
    unfold rkV rkEr; rw [if_pos h, if_pos h]; exact r8_Rank_bad1 w hu su hc sc h1
  · by_cases h2 : 64 < n
    · have h : rkWrong n u c := .inr (.inl h2)
      unfold rkV rkEr; rw [if_pos h, if_pos h]; exact r8_Rank_bad2 w hu su hc sc h2
    · by_cases h3 : 0 ≤ u ∧ u ≤ 1
      · by_cases h4 : 0 ≤ c ∧ c ≤ 1
        · have h : ¬ rkWrong n u c := fun x => by rcases x with x | x | x | x; exact h1 x; exact h2 x; exact x h3; exact x h4
          unfold rkV rkEr
          rw [if_neg h, if_neg h]
          obtain ⟨m, rfl⟩ : ∃ m : Nat, n = m := ⟨n.toNat, by omega⟩
          exact r8_Rank_ok w hu su h3.1 h3.2 hc sc h4.1 h4.2 (by omega) (by omega) rfl rfl
        · have h : rkWrong n u c := .inr (.inr (.inr h4))
          unfold rkV rkEr; rw [if_pos h, if_pos h]; exact r8_Rank_bad4 w hu su hc sc (by omega) (by omega) h3 h4
      · have h : rkWrong n u c := .inr (.inr (.inl h3))
        unfold rkV rkEr; rw [if_pos h, if_pos h]; exact r8_Rank_bad3 w hu su hc sc (by omega) (by omega) h3
end Go.Proofs.YtlmemilmhdhgbaaGreat
