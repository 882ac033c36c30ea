/-
  RankSum of both sides, whatever the lists; Alike where it fails.
-/
import Derived.Test.YtmnipggjjcmjkaaGreatAlkB
import Derived.Test.YtmnipggjjcmjkaaGreatAlkW
set_option linter.unusedSimpArgs false
set_option linter.unusedVariables false
namespace Go.Proofs.YtmnipggjjcmjkaaGreat
open Go.RowKit Dg
attribute [local go_sem ↓] Go.wp_at_zero Go.wp_at_succ

set_option maxRecDepth 100000 in
set_option maxHeartbeats 4000000 in
theorem al_RankSum_bad {va vb : Value} {la lb : List Rat} (w : World) (hx : Rows 3 29 PC w va la) (hy : Rows 3 29 PC w vb lb) {W : Int} (hW : twE la lb = W) (hn : ¬ W = 0) : Calls Tryz.prog 23 #[va, vb] w (RetV w (.tuple #[.int .i64 0, .int .i64 W])) := by
  obtain ⟨ahx, khx, rfl, hx1, hx2, -⟩ := hx.toI.slice
  obtain ⟨ahy, khy, rfl, hy1, hy2, -⟩ := hy.toI.slice
  have HW := Lib.hid hW
  have HN := Lib.hid hn
  clear hW hn
  have hs := Below.refl w.heap.size w
  go_enter Tryz.func23, Tryz.ntmps23
  go_wp2_with fail
  with_reducible refine (al_Two_all _ hx hy HW.out).mono ?_
  rintro e w1 ⟨rfl, hb⟩
  replace hs := bStep hs hb
  replace hx := rowsJ PC.kept _ _ _ hx hb
  replace hy := rowsJ PC.kept _ _ _ hy hb
  clear hb
  have q1 : ¬ (W = 0) := HN.out
  have q1b : (W == 0) = false := beq_eq_false_iff_ne.2 (by omega)
  have q1n : (W != 0) = true := bne_iff_ne.2 (by omega)
  have q1H := Lib.hid q1
  clear q1
  go_wp2
  go_ret2
  exact ⟨rfl, hs⟩

set_option maxRecDepth 100000 in
set_option maxHeartbeats 4000000 in
theorem r8_RankSum_bad {va vb : Value} {la lb : List Rat} (w : World) (hx : Rows 3 36 RC w va la) (hy : Rows 3 36 RC w vb lb) {W : Int} (hW : twE la lb = W) (hn : ¬ W = 0) : Calls Tryz.prog 24 #[va, vb] w (RetV w (.tuple #[.int .i64 0, .int .i64 W])) := by
  obtain ⟨ahx, khx, rfl, hx1, hx2, -⟩ := hx.toI.slice
  obtain ⟨ahy, khy, rfl, hy1, hy2, -⟩ := hy.toI.slice
  have HW := Lib.hid hW
  have HN := Lib.hid hn
  clear hW hn
  have hs := Below.refl w.heap.size w
  go_enter Tryz.func24, Tryz.ntmps24
  go_wp2_with fail
  with_reducible refine (r8_Two_all _ hx hy HW.out).mono ?_
  rintro e w1 ⟨rfl, hb⟩
  replace hs := bStep hs hb
  replace hx := rowsJ RC.kept _ _ _ hx hb
  replace hy := rowsJ RC.kept _ _ _ hy hb
  clear hb
  have q1 : ¬ (W = 0) := HN.out
  have q1b : (W == 0) = false := beq_eq_false_iff_ne.2 (by omega)
  have q1n : (W != 0) = true := bne_iff_ne.2 (by omega)
  have q1H := Lib.hid q1
  clear q1
  go_wp2
  go_ret2
  exact ⟨rfl, hs⟩

set_option maxRecDepth 100000 in
set_option maxHeartbeats 4000000 in
theorem al_Alike_bad {va vb : Value} {la lb : List Rat} (w : World) (hx : Rows 3 29 PC w va la) (hy : Rows 3 29 PC w vb lb) {W : Int} (hW : twE la lb = W) (hn : ¬ W = 0) : Calls Tryz.prog 25 #[va, vb] w (RetPE w 0 W) := by
  obtain ⟨ahx, khx, rfl, hx1, hx2, -⟩ := hx.toI.slice
  obtain ⟨ahy, khy, rfl, hy1, hy2, -⟩ := hy.toI.slice
  have HW := Lib.hid hW
  have HN := Lib.hid hn
  clear hW hn
  have hs := Below.refl w.heap.size w
  go_enter Tryz.func25, Tryz.ntmps25
  go_wp2_with fail
  refine Calls.abs ?_
  intro w1 hW
  have hG : Gr [] w w1 := by rw [hW]; exact (Gr.refl _ _).alloc
  have hbw : Below w.heap.size w w1 := hG.below0 hs.size
  have hk : KeepD w w1 := hG.keep True.intro
  have sz_w1 : w.heap.size ≤ w.heap.size := hs.size
  have Blk : Bx w1 (w.heap.size) 29 #[.bool false, .slice none 0 0, .slice none 0 0] := by rw [hW]; exact (Bx.new0 _ _ _)
  replace hs := hs.trans hbw
  replace hx := rowsJ PC.kept _ _ _ hx (hG.below0 (Nat.le_refl _))
  replace hy := rowsJ PC.kept _ _ _ hy (hG.below0 (Nat.le_refl _))
  clear hW hG hk hbw
  have hz_w1 : w.heap.size < w1.heap.size := Blk.lt
  with_reducible refine (al_Two_all _ hx hy HW.out).mono ?_
  rintro e w2 ⟨rfl, hb⟩
  replace hs := bStep hs hb
  replace Blk := Blk.mono hb
  replace hx := rowsJ PC.kept _ _ _ hx hb
  replace hy := rowsJ PC.kept _ _ _ hy hb
  clear hb
  have q1 : ¬ (W = 0) := HN.out
  have q1b : (W == 0) = false := beq_eq_false_iff_ne.2 (by omega)
  have q1n : (W != 0) = true := bne_iff_ne.2 (by omega)
  have q1H := Lib.hid q1
  clear q1
  clear hx hy
  have ck_0 : w2.cell? ⟨w.heap.size, 0, none⟩ = some (.bool false) := Blk.at 0 rfl
  have ck_1 : w2.cell? ⟨w.heap.size, 1, none⟩ = some (.slice none 0 0) := Blk.at 1 rfl
  have ck_2 : w2.cell? ⟨w.heap.size, 2, none⟩ = some (.slice none 0 0) := Blk.at 2 rfl
  have fk := Blk.free
  have Lk : w.heap.size < w2.heap.size := Blk.lt
  go_wp2
  clear ck_0 ck_1 ck_2 fk Lk
  refine bodyPost.abs ?_
  intro w3 hW
  have hG : Gr [w.heap.size] w2 w3 := by rw [hW]; exact (Gr.refl _ _).set.set.set
  have hsz := hs.size
  have lk := Blk.lt
  have hbw : Below w.heap.size w2 w3 := hG.below1 hs.size (by first | omega | assumption)
  have hk : KeepD w2 w3 := hG.keep ⟨⟨_, Blk.ty, by decide⟩, True.intro⟩
  have Bl1k : Bx w3 (w.heap.size) 29 #[.bool false, .slice none 0 0, .slice none 0 0] := by rw [hW]; exact Blk.set3
  replace hs := hs.trans hbw
  replace Blk := Bl1k
  clear Bl1k
  clear hW hG hk hbw hsz lk
  have ck_0 : w3.cell? ⟨w.heap.size, 0, none⟩ = some (.bool false) := Blk.at 0 rfl
  have ck_1 : w3.cell? ⟨w.heap.size, 1, none⟩ = some (.slice none 0 0) := Blk.at 1 rfl
  have ck_2 : w3.cell? ⟨w.heap.size, 2, none⟩ = some (.slice none 0 0) := Blk.at 2 rfl
  exact bodyPost_ret (v := .tuple #[.agg #[.bool false, .slice none 0 0, .slice none 0 0], .int .i64 W]) (by simp [results, Tryz.results25, go_sem, ck_0, ck_1, ck_2]) rfl ⟨_, rfl, (PV.zero _), hs⟩

theorem twE_zero {a b : List Rat} (h : twE a b = 0) : 1 ≤ a.length ∧ 1 ≤ b.length ∧ a.length + b.length ≤ 64 := by
  unfold twE at h
  by_cases c : a.length < 1 ∨ 64 < a.length ∨ b.length < 1 ∨ 64 < b.length ∨ 64 < a.length + b.length
  · rw [if_pos c] at h; cases h
  · omega
theorem totS_take (R : List Int) (m : Nat) (h : m ≤ R.length) : totS (R.take m) m = totS R m := by
  rw [totS_sum R m h, totS_sum (R.take m) m (by rw [List.length_take]; omega), List.take_take, Nat.min_self]
set_option maxRecDepth 100000 in
set_option maxHeartbeats 4000000 in
theorem r8_RankSum {va vb : Value} {la lb : List Rat} (w : World) (hx : Rows 3 36 RC w va la) (hy : Rows 3 36 RC w vb lb) (h1 : 1 ≤ la.length) (h2 : 1 ≤ lb.length) (h20 : la.length + lb.length ≤ 20) {L : List Rat} (hLL : la ++ lb = L) (hz : ∀ i, i < L.length → SzQ 100000 (nthQ L i)) {R : List Int} (hRR : rkT L L.length = R) {t : Int} (ht : totS R la.length = t) : Calls Tryz.prog 24 #[va, vb] w (RetV w (.tuple #[.int .i64 t, .int .i64 0])) := by
  have hL : L.length = la.length + lb.length := by rw [← hLL, List.length_append]
  have hR : R.length = L.length := by rw [← hRR, rkT_len]
  have l1 : L.length ≤ la.length + lb.length := by omega
  have l2 : la.length + lb.length ≤ L.length := by omega
  have l3 : R.length ≤ L.length := by omega
  have l4 : L.length ≤ R.length := by omega
  have hRb : ∀ x ∈ R, 0 ≤ x ∧ x ≤ 1000 := hRR ▸ rkT_bd (by omega) _
  have HW := Lib.hid (show twE la lb = 0 from if_neg (by omega))
  have HLL := Lib.hid hLL
  have HZ := Lib.hid hz
  have HRR := Lib.hid hRR
  have HRB := Lib.hid hRb
  have HT := Lib.hid ht
  clear hL hR hLL hz hRR hRb ht
  obtain ⟨ahx, khx, rfl, hx1, hx2, -⟩ := hx.toI.slice
  obtain ⟨ahy, khy, rfl, hy1, hy2, -⟩ := hy.toI.slice
  have hs := Below.refl w.heap.size w
  go_enter Tryz.func24, Tryz.ntmps24
  go_wp2_with fail
  with_reducible refine (r8_Two_all _ hx hy HW.out).mono ?_
  rintro e w1 ⟨rfl, hb⟩
  replace hs := bStep hs hb
  replace hx := rowsJ RC.kept _ _ _ hx hb
  replace hy := rowsJ RC.kept _ _ _ hy hb
  clear hb
  go_wp2_with fail
  with_reducible refine (r8_both _ hx hy h1 h2 (by omega)).mono ?_
  rintro e w2 ⟨_, rfl, hc1, hb⟩
  rw [HLL.out] at hc1
  obtain ⟨bhc1, ohc1, khc1, rfl, hc11, hc12, -⟩ := hc1.open_ (by omega)
  replace hs := bStep hs hb
  replace hx := rowsJ RC.kept _ _ _ hx hb
  replace hy := rowsJ RC.kept _ _ _ hy hb
  clear hb
  go_wp2_with fail
  with_reducible refine (r8_ranks _ hc1 (by omega) (by omega) HZ.out).mono ?_
  rintro e w3 ⟨_, rfl, hr2, hb⟩
  rw [HRR.out] at hr2
  obtain ⟨bhr2, ohr2, khr2, rfl, hr21, hr22, -⟩ := hr2.open_ (by omega)
  replace hs := bStep hs hb
  replace hx := rowsJ RC.kept _ _ _ hx hb
  replace hy := rowsJ RC.kept _ _ _ hy hb
  replace hc1 := rowsJ RC.kept _ _ _ hc1 hb
  clear hb
  go_wp2_with fail
  with_reducible refine (r8_rankSum (m := la.length) _ hr2 (by omega) (by omega) (by omega) HRB.out HT.out).mono ?_
  rintro e w4 ⟨rfl, hb⟩
  replace hs := bStep hs hb
  replace hx := rowsJ RC.kept _ _ _ hx hb
  replace hy := rowsJ RC.kept _ _ _ hy hb
  replace hc1 := rowsJ RC.kept _ _ _ hc1 hb
  replace hr2 := rowsJ IC.kept _ _ _ hr2 hb
  clear hb
  go_wp2
  go_ret2
  exact ⟨rfl, hs⟩

end Go.Proofs.YtmnipggjjcmjkaaGreat
