/-
  Alike, both sides; law 08: AllowAlikes.
-/
import Derived.Test.YtmnipggjjcmjkaaGreatAlkG
import Derived.Test.YtmnipggjjcmjkaaGreatAlL
import Derived.Test.YtmnipggjjcmjkaaGreatAlE
import Derived.Test.YtmnipggjjcmjkaaGreatAlAw
set_option linter.unusedSimpArgs false
set_option linter.unusedVariables false
namespace Go.Proofs.YtmnipggjjcmjkaaGreat
open Go.RowKit Dg
attribute [local go_sem ↓] Go.wp_at_zero Go.wp_at_succ

set_option maxRecDepth 100000 in
set_option maxHeartbeats 4000000 in
theorem al_Alike {va vb : Value} {la lb : List Rat} (w : World) (hx : Rows 3 29 PC w va la) (hy : Rows 3 29 PC w vb lb) (h1 : 1 ≤ la.length) (h2 : 1 ≤ lb.length) (h20 : la.length + lb.length ≤ 20) (hz : ∀ i, i < (la ++ lb).length → SzQ 100000 (nthQ (la ++ lb) i)) {q : Rat} (hq : alA la lb = q) (sq : SzQ 1 q) : Calls Tryz.prog 25 #[va, vb] w (RetPE w q 0) := by
  obtain ⟨ahx, khx, rfl, hx1, hx2, -⟩ := hx.toI.slice
  obtain ⟨ahy, khy, rfl, hy1, hy2, -⟩ := hy.toI.slice
  have HZ := Lib.hid hz
  have HQ := Lib.hid (show alkQ (rkT (la ++ lb) (la ++ lb).length) la.length = q from hq)
  have HW := Lib.hid (show twE la lb = 0 from if_neg (by omega))
  clear hz hq
  have hs := Below.refl w.heap.size w
  go_enter Tryz.func25, Tryz.ntmps25
  go_wp2_with fail
  refine Calls.abs ?_
  intro w1 hW
  have hG : Gr [] w w1 := by rw [hW]; exact (Gr.refl _ _).alloc
  have hbw : Below w.heap.size w w1 := hG.below0 hs.size
  have hk : KeepD w w1 := hG.keep True.intro
  have sz_w1 : w.heap.size ≤ w.heap.size := hs.size
  have Blk : Bx w1 (w.heap.size) 29 #[.bool false, .slice none 0 0, .slice none 0 0] := by rw [hW]; exact (Bx.new0 _ _ _)
  replace hs := hs.trans hbw
  replace hx := rowsJ PC.kept _ _ _ hx (hG.below0 (Nat.le_refl _))
  replace hy := rowsJ PC.kept _ _ _ hy (hG.below0 (Nat.le_refl _))
  clear hW hG hk hbw
  have hz_w1 : w.heap.size < w1.heap.size := Blk.lt
  with_reducible refine (al_Two_all _ hx hy HW.out).mono ?_
  rintro e w2 ⟨rfl, hb⟩
  replace hs := bStep hs hb
  replace Blk := Blk.mono hb
  replace hx := rowsJ PC.kept _ _ _ hx hb
  replace hy := rowsJ PC.kept _ _ _ hy hb
  clear hb
  go_wp2_with fail
  with_reducible refine (al_alike _ hx hy h1 h2 h20 rfl HZ.out rfl HQ.out).mono ?_
  rintro e w3 ⟨_, rfl, h1, hb⟩
  obtain ⟨sh1, ah1, nh1, ch1, Ah1, Nh1, Ch1, rfl⟩ := h1.shape
  replace hs := bStep hs hb
  replace Blk := Blk.mono hb
  replace hx := rowsJ PC.kept _ _ _ hx hb
  replace hy := rowsJ PC.kept _ _ _ hy hb
  clear hb
  clear hx hy
  have ck_0 : w3.cell? ⟨w.heap.size, 0, none⟩ = some (.bool false) := Blk.at 0 rfl
  have ck_1 : w3.cell? ⟨w.heap.size, 1, none⟩ = some (.slice none 0 0) := Blk.at 1 rfl
  have ck_2 : w3.cell? ⟨w.heap.size, 2, none⟩ = some (.slice none 0 0) := Blk.at 2 rfl
  have fk := Blk.free
  have Lk : w.heap.size < w3.heap.size := Blk.lt
  go_wp2
  clear ck_0 ck_1 ck_2 fk Lk
  refine bodyPost.abs ?_
  intro w4 hW
  have hG : Gr [w.heap.size] w3 w4 := by rw [hW]; exact (Gr.refl _ _).set.set.set
  have hsz := hs.size
  have lk := Blk.lt
  have hbw : Below w.heap.size w3 w4 := hG.below1 hs.size (by first | omega | assumption)
  have hk : KeepD w3 w4 := hG.keep ⟨⟨_, Blk.ty, by decide⟩, True.intro⟩
  have Bl1k : Bx w4 (w.heap.size) 29 #[.bool sh1, .slice ah1 nh1 ch1, .slice Ah1 Nh1 Ch1] := by rw [hW]; exact Blk.set3
  replace hs := hs.trans hbw
  replace Blk := Bl1k
  clear Bl1k
  replace h1 := h1.keep hk
  clear hW hG hk hbw hsz lk
  have ck_0 : w4.cell? ⟨w.heap.size, 0, none⟩ = some (.bool sh1) := Blk.at 0 rfl
  have ck_1 : w4.cell? ⟨w.heap.size, 1, none⟩ = some (.slice ah1 nh1 ch1) := Blk.at 1 rfl
  have ck_2 : w4.cell? ⟨w.heap.size, 2, none⟩ = some (.slice Ah1 Nh1 Ch1) := Blk.at 2 rfl
  exact bodyPost_ret (v := .tuple #[.agg #[.bool sh1, .slice ah1 nh1 ch1, .slice Ah1 Nh1 Ch1], .int .i64 0]) (by simp [results, Tryz.results25, go_sem, ck_0, ck_1, ck_2]) rfl ⟨_, rfl, h1, hs⟩

set_option maxRecDepth 100000 in
set_option maxHeartbeats 4000000 in
theorem r8_Alike {va vb : Value} {la lb : List Rat} (w : World) (hx : Rows 3 36 RC w va la) (hy : Rows 3 36 RC w vb lb) (h1 : 1 ≤ la.length) (h2 : 1 ≤ lb.length) (h20 : la.length + lb.length ≤ 20) (hz : ∀ i, i < (la ++ lb).length → SzQ 100000 (nthQ (la ++ lb) i)) {q : Rat} (hq : alA la lb = q) (sq : SzQ 1 q) : Calls Tryz.prog 26 #[va, vb] w (RetQE w q 0) := by
  obtain ⟨ahx, khx, rfl, hx1, hx2, -⟩ := hx.toI.slice
  obtain ⟨ahy, khy, rfl, hy1, hy2, -⟩ := hy.toI.slice
  have HZ := Lib.hid hz
  have HQ := Lib.hid (show alkQ (rkT (la ++ lb) (la ++ lb).length) la.length = q from hq)
  have HW := Lib.hid (show twE la lb = 0 from if_neg (by omega))
  clear hz hq
  have hs := Below.refl w.heap.size w
  go_enter Tryz.func26, Tryz.ntmps26
  go_wp2_with fail
  refine Calls.abs ?_
  intro w1 hW
  have hG : Gr [] w w1 := by rw [hW]; exact (Gr.refl _ _).alloc
  have hbw : Below w.heap.size w w1 := hG.below0 hs.size
  have hk : KeepD w w1 := hG.keep True.intro
  have sz_w1 : w.heap.size ≤ w.heap.size := hs.size
  have Blk : Bx w1 (w.heap.size) 36 #[.bool false, .slice none 0 0, .slice none 0 0] := by rw [hW]; exact (Bx.new0 _ _ _)
  replace hs := hs.trans hbw
  replace hx := rowsJ RC.kept _ _ _ hx (hG.below0 (Nat.le_refl _))
  replace hy := rowsJ RC.kept _ _ _ hy (hG.below0 (Nat.le_refl _))
  clear hW hG hk hbw
  have hz_w1 : w.heap.size < w1.heap.size := Blk.lt
  with_reducible refine (r8_Two_all _ hx hy HW.out).mono ?_
  rintro e w2 ⟨rfl, hb⟩
  replace hs := bStep hs hb
  replace Blk := Blk.mono hb
  replace hx := rowsJ RC.kept _ _ _ hx hb
  replace hy := rowsJ RC.kept _ _ _ hy hb
  clear hb
  go_wp2_with fail
  with_reducible refine (r8_alike _ hx hy h1 h2 h20 rfl HZ.out rfl HQ.out).mono ?_
  rintro e w3 ⟨_, rfl, h1, hb⟩
  obtain ⟨sh1, ah1, nh1, ch1, Ah1, Nh1, Ch1, rfl⟩ := h1.shape
  replace hs := bStep hs hb
  replace Blk := Blk.mono hb
  replace hx := rowsJ RC.kept _ _ _ hx hb
  replace hy := rowsJ RC.kept _ _ _ hy hb
  clear hb
  clear hx hy
  have ck_0 : w3.cell? ⟨w.heap.size, 0, none⟩ = some (.bool false) := Blk.at 0 rfl
  have ck_1 : w3.cell? ⟨w.heap.size, 1, none⟩ = some (.slice none 0 0) := Blk.at 1 rfl
  have ck_2 : w3.cell? ⟨w.heap.size, 2, none⟩ = some (.slice none 0 0) := Blk.at 2 rfl
  have fk := Blk.free
  have Lk : w.heap.size < w3.heap.size := Blk.lt
  go_wp2
  clear ck_0 ck_1 ck_2 fk Lk
  refine bodyPost.abs ?_
  intro w4 hW
  have hG : Gr [w.heap.size] w3 w4 := by rw [hW]; exact (Gr.refl _ _).set.set.set
  have hsz := hs.size
  have lk := Blk.lt
  have hbw : Below w.heap.size w3 w4 := hG.below1 hs.size (by first | omega | assumption)
  have hk : KeepD w3 w4 := hG.keep ⟨⟨_, Blk.ty, by decide⟩, True.intro⟩
  have Bl1k : Bx w4 (w.heap.size) 36 #[.bool sh1, .slice ah1 nh1 ch1, .slice Ah1 Nh1 Ch1] := by rw [hW]; exact Blk.set3
  replace hs := hs.trans hbw
  replace Blk := Bl1k
  clear Bl1k
  replace h1 := h1.keep hk
  clear hW hG hk hbw hsz lk
  have ck_0 : w4.cell? ⟨w.heap.size, 0, none⟩ = some (.bool sh1) := Blk.at 0 rfl
  have ck_1 : w4.cell? ⟨w.heap.size, 1, none⟩ = some (.slice ah1 nh1 ch1) := Blk.at 1 rfl
  have ck_2 : w4.cell? ⟨w.heap.size, 2, none⟩ = some (.slice Ah1 Nh1 Ch1) := Blk.at 2 rfl
  exact bodyPost_ret (v := .tuple #[.agg #[.bool sh1, .slice ah1 nh1 ch1, .slice Ah1 Nh1 Ch1], .int .i64 0]) (by simp [results, Tryz.results26, go_sem, ck_0, ck_1, ck_2]) rfl ⟨_, rfl, h1, hs⟩

set_option maxRecDepth 100000 in
set_option maxHeartbeats 4000000 in
theorem r8_Alike_bad {va vb : Value} {la lb : List Rat} (w : World) (hx : Rows 3 36 RC w va la) (hy : Rows 3 36 RC w vb lb) {W : Int} (hW : twE la lb = W) (hn : ¬ W = 0) : Calls Tryz.prog 26 #[va, vb] w (RetQE w 0 W) := by
  obtain ⟨ahx, khx, rfl, hx1, hx2, -⟩ := hx.toI.slice
  obtain ⟨ahy, khy, rfl, hy1, hy2, -⟩ := hy.toI.slice
  have HW := Lib.hid hW
  have HN := Lib.hid hn
  clear hW hn
  have hs := Below.refl w.heap.size w
  go_enter Tryz.func26, Tryz.ntmps26
  go_wp2_with fail
  refine Calls.abs ?_
  intro w1 hW
  have hG : Gr [] w w1 := by rw [hW]; exact (Gr.refl _ _).alloc
  have hbw : Below w.heap.size w w1 := hG.below0 hs.size
  have hk : KeepD w w1 := hG.keep True.intro
  have sz_w1 : w.heap.size ≤ w.heap.size := hs.size
  have Blk : Bx w1 (w.heap.size) 36 #[.bool false, .slice none 0 0, .slice none 0 0] := by rw [hW]; exact (Bx.new0 _ _ _)
  replace hs := hs.trans hbw
  replace hx := rowsJ RC.kept _ _ _ hx (hG.below0 (Nat.le_refl _))
  replace hy := rowsJ RC.kept _ _ _ hy (hG.below0 (Nat.le_refl _))
  clear hW hG hk hbw
  have hz_w1 : w.heap.size < w1.heap.size := Blk.lt
  with_reducible refine (r8_Two_all _ hx hy HW.out).mono ?_
  rintro e w2 ⟨rfl, hb⟩
  replace hs := bStep hs hb
  replace Blk := Blk.mono hb
  replace hx := rowsJ RC.kept _ _ _ hx hb
  replace hy := rowsJ RC.kept _ _ _ hy hb
  clear hb
  have q1 : ¬ (W = 0) := HN.out
  have q1b : (W == 0) = false := beq_eq_false_iff_ne.2 (by omega)
  have q1n : (W != 0) = true := bne_iff_ne.2 (by omega)
  have q1H := Lib.hid q1
  clear q1
  go_wp2_with fail
  with_reducible refine (r_zero _).mono ?_
  rintro e w3 ⟨_, rfl, h2, hb⟩
  obtain ⟨sh2, ah2, nh2, ch2, Ah2, Nh2, Ch2, rfl⟩ := h2.shape
  replace hs := bStep hs hb
  replace Blk := Blk.mono hb
  replace hx := rowsJ RC.kept _ _ _ hx hb
  replace hy := rowsJ RC.kept _ _ _ hy hb
  clear hb
  clear hx hy
  have ck_0 : w3.cell? ⟨w.heap.size, 0, none⟩ = some (.bool false) := Blk.at 0 rfl
  have ck_1 : w3.cell? ⟨w.heap.size, 1, none⟩ = some (.slice none 0 0) := Blk.at 1 rfl
  have ck_2 : w3.cell? ⟨w.heap.size, 2, none⟩ = some (.slice none 0 0) := Blk.at 2 rfl
  have fk := Blk.free
  have Lk : w.heap.size < w3.heap.size := Blk.lt
  go_wp2
  clear ck_0 ck_1 ck_2 fk Lk
  refine bodyPost.abs ?_
  intro w4 hW
  have hG : Gr [w.heap.size] w3 w4 := by rw [hW]; exact (Gr.refl _ _).set.set.set
  have hsz := hs.size
  have lk := Blk.lt
  have hbw : Below w.heap.size w3 w4 := hG.below1 hs.size (by first | omega | assumption)
  have hk : KeepD w3 w4 := hG.keep ⟨⟨_, Blk.ty, by decide⟩, True.intro⟩
  have Bl1k : Bx w4 (w.heap.size) 36 #[.bool sh2, .slice ah2 nh2 ch2, .slice Ah2 Nh2 Ch2] := by rw [hW]; exact Blk.set3
  replace hs := hs.trans hbw
  replace Blk := Bl1k
  clear Bl1k
  replace h2 := h2.keep hk
  clear hW hG hk hbw hsz lk
  have ck_0 : w4.cell? ⟨w.heap.size, 0, none⟩ = some (.bool sh2) := Blk.at 0 rfl
  have ck_1 : w4.cell? ⟨w.heap.size, 1, none⟩ = some (.slice ah2 nh2 ch2) := Blk.at 1 rfl
  have ck_2 : w4.cell? ⟨w.heap.size, 2, none⟩ = some (.slice Ah2 Nh2 Ch2) := Blk.at 2 rfl
  exact bodyPost_ret (v := .tuple #[.agg #[.bool sh2, .slice ah2 nh2 ch2, .slice Ah2 Nh2 Ch2], .int .i64 W]) (by simp [results, Tryz.results26, go_sem, ck_0, ck_1, ck_2]) rfl ⟨_, rfl, h2, hs⟩

set_option maxRecDepth 100000 in
set_option maxHeartbeats 16000000 in
theorem l8_Alikes_b1 (v0 v1 : Value) (l m : List (Int × Int)) (w : World) (hl : RowsI 2 FC w v0 l) (hm : RowsI 2 FC w v1 m) (h1 : 70 < l.length) :
    Calls Tryz.prog 4 #[v0, v1] w (RetV w (.bool true)) := by
  obtain ⟨a0, c0, rfl, hc1, hc2, hc3⟩ := hl.slice
  obtain ⟨a1, c1, rfl, hd1, hd2, hd3⟩ := hm.slice
  have hs := Below.refl w.heap.size w
  have HL1 := Lib.hid hl
  have HM1 := Lib.hid hm
  clear hl hm 
  go_enter Tryz.func4, Tryz.ntmps4
  go_wp2_with fail
  with_reducible refine (l8_awake _).mono ?_
  rintro e w1 ⟨rfl, hb⟩
  replace hs := bStep hs hb
  clear hb
  have q1 : 70 < l.length := (by omega)
  have q1d : ((70 : Int) < (l.length : Int)) = True := eq_true (by omega)
  go_wp2_with fail
  with_reducible refine (l8_awake _).mono ?_
  rintro e w2 ⟨rfl, hb⟩
  replace hs := bStep hs hb
  clear hb
  go_wp2
  go_ret
  exact ⟨rfl, hs⟩

set_option maxRecDepth 100000 in
set_option maxHeartbeats 16000000 in
theorem l8_Alikes_b2 (v0 v1 : Value) (l m : List (Int × Int)) (w : World) (hl : RowsI 2 FC w v0 l) (hm : RowsI 2 FC w v1 m) (h1 : l.length ≤ 70) (h2 : 70 < m.length) :
    Calls Tryz.prog 4 #[v0, v1] w (RetV w (.bool true)) := by
  obtain ⟨a0, c0, rfl, hc1, hc2, hc3⟩ := hl.slice
  obtain ⟨a1, c1, rfl, hd1, hd2, hd3⟩ := hm.slice
  have hs := Below.refl w.heap.size w
  have HL1 := Lib.hid hl
  have HM1 := Lib.hid hm
  clear hl hm 
  go_enter Tryz.func4, Tryz.ntmps4
  go_wp2_with fail
  with_reducible refine (l8_awake _).mono ?_
  rintro e w1 ⟨rfl, hb⟩
  replace hs := bStep hs hb
  clear hb
  have q1 : ¬ (70 < l.length) := (by omega)
  have q1d : ((70 : Int) < (l.length : Int)) = False := eq_false (by omega)
  have q2 : 70 < m.length := (by omega)
  have q2d : ((70 : Int) < (m.length : Int)) = True := eq_true (by omega)
  go_wp2_with fail
  with_reducible refine (l8_awake _).mono ?_
  rintro e w2 ⟨rfl, hb⟩
  replace hs := bStep hs hb
  clear hb
  go_wp2
  go_ret
  exact ⟨rfl, hs⟩

set_option maxRecDepth 100000 in
set_option maxHeartbeats 16000000 in
theorem l8_Alikes_b3 (v0 v1 : Value) (l m : List (Int × Int)) (w : World) (hl : RowsI 2 FC w v0 l) (hm : RowsI 2 FC w v1 m) (h1 : l.length ≤ 70) (h2 : m.length ≤ 70) (hS : ¬ (l.all smF24 = true)) :
    Calls Tryz.prog 4 #[v0, v1] w (RetV w (.bool true)) := by
  obtain ⟨a0, c0, rfl, hc1, hc2, hc3⟩ := hl.slice
  obtain ⟨a1, c1, rfl, hd1, hd2, hd3⟩ := hm.slice
  have hs := Below.refl w.heap.size w
  have HL1 := Lib.hid hl
  have HM1 := Lib.hid hm
  have HS := Lib.hid hS
  clear hl hm hS
  go_enter Tryz.func4, Tryz.ntmps4
  go_wp2_with fail
  with_reducible refine (l8_awake _).mono ?_
  rintro e w1 ⟨rfl, hb⟩
  replace hs := bStep hs hb
  clear hb
  have q1 : ¬ (70 < l.length) := (by omega)
  have q1d : ((70 : Int) < (l.length : Int)) = False := eq_false (by omega)
  have q2 : ¬ (70 < m.length) := (by omega)
  have q2d : ((70 : Int) < (m.length : Int)) = False := eq_false (by omega)
  go_wp2_with fail
  with_reducible refine (l8_small24 _ l _ (HL1.out.mono FC.kept hs)).mono ?_
  rintro e w2 ⟨rfl, hb⟩
  replace hs := bStep hs hb
  clear hb
  obtain ⟨b3, Hb3⟩ : ∃ b : Bool, b = l.all smF24 := ⟨_, rfl⟩
  rw [← Hb3]
  replace Hb3 := Lib.hid Hb3
  have q4 : ¬ (l.all smF24 = true) := HS.out
  obtain rfl : b3 = false := by rw [Hb3.out]; simpa using q4
  have q4H := Lib.hid q4
  clear q4
  go_wp2_with fail
  with_reducible refine (l8_awake _).mono ?_
  rintro e w3 ⟨rfl, hb⟩
  replace hs := bStep hs hb
  clear hb
  go_wp2
  go_ret
  exact ⟨rfl, hs⟩

set_option maxRecDepth 100000 in
set_option maxHeartbeats 16000000 in
theorem l8_Alikes_b4 (v0 v1 : Value) (l m : List (Int × Int)) (w : World) (hl : RowsI 2 FC w v0 l) (hm : RowsI 2 FC w v1 m) (h1 : l.length ≤ 70) (h2 : m.length ≤ 70) (hS : l.all smF24 = true) (hT : ¬ (m.all smF24 = true)) :
    Calls Tryz.prog 4 #[v0, v1] w (RetV w (.bool true)) := by
  obtain ⟨a0, c0, rfl, hc1, hc2, hc3⟩ := hl.slice
  obtain ⟨a1, c1, rfl, hd1, hd2, hd3⟩ := hm.slice
  have hs := Below.refl w.heap.size w
  have HL1 := Lib.hid hl
  have HM1 := Lib.hid hm
  have HS := Lib.hid hS
  have HT_ := Lib.hid hT
  clear hl hm hS hT
  go_enter Tryz.func4, Tryz.ntmps4
  go_wp2_with fail
  with_reducible refine (l8_awake _).mono ?_
  rintro e w1 ⟨rfl, hb⟩
  replace hs := bStep hs hb
  clear hb
  have q1 : ¬ (70 < l.length) := (by omega)
  have q1d : ((70 : Int) < (l.length : Int)) = False := eq_false (by omega)
  have q2 : ¬ (70 < m.length) := (by omega)
  have q2d : ((70 : Int) < (m.length : Int)) = False := eq_false (by omega)
  go_wp2_with fail
  with_reducible refine (l8_small24 _ l _ (HL1.out.mono FC.kept hs)).mono ?_
  rintro e w2 ⟨rfl, hb⟩
  replace hs := bStep hs hb
  clear hb
  obtain ⟨b3, Hb3⟩ : ∃ b : Bool, b = l.all smF24 := ⟨_, rfl⟩
  rw [← Hb3]
  replace Hb3 := Lib.hid Hb3
  have q4 : l.all smF24 = true := HS.out
  obtain rfl : b3 = true := by rw [Hb3.out]; exact q4
  have q4H := Lib.hid q4
  clear q4
  go_wp2_with fail
  with_reducible refine (l8_small24 _ m _ (HM1.out.mono FC.kept hs)).mono ?_
  rintro e w3 ⟨rfl, hb⟩
  replace hs := bStep hs hb
  clear hb
  obtain ⟨b5, Hb5⟩ : ∃ b : Bool, b = m.all smF24 := ⟨_, rfl⟩
  rw [← Hb5]
  replace Hb5 := Lib.hid Hb5
  have q6 : ¬ (m.all smF24 = true) := HT_.out
  obtain rfl : b5 = false := by rw [Hb5.out]; simpa using q6
  have q6H := Lib.hid q6
  clear q6
  go_wp2_with fail
  with_reducible refine (l8_awake _).mono ?_
  rintro e w4 ⟨rfl, hb⟩
  replace hs := bStep hs hb
  clear hb
  go_wp2
  go_ret
  exact ⟨rfl, hs⟩

set_option maxRecDepth 100000 in
set_option maxHeartbeats 16000000 in
theorem l8_Alikes_err (v0 v1 : Value) (l m : List (Int × Int)) (w : World) (hl : RowsI 2 FC w v0 l) (hm : RowsI 2 FC w v1 m) (k1 : l.length ≤ 70) (k2 : m.length ≤ 70) (hS : l.all smF24 = true) (hT : m.all smF24 = true) (hlo : ∀ x ∈ l, DOk x) (hmo : ∀ x ∈ m, DOk x) (A B : List Rat) (hA : l.map fr8 = A) (hB : m.map fr8 = B) (W : Int) (hW : twE A B = W) (hn : ¬ W = 0) :
    Calls Tryz.prog 4 #[v0, v1] w (RetV w (.bool true)) := by
  obtain ⟨a0, c0, rfl, hc1, hc2, hc3⟩ := hl.slice
  obtain ⟨a1, c1, rfl, hd1, hd2, hd3⟩ := hm.slice
  have hs := Below.refl w.heap.size w
  have HL1 := Lib.hid hl
  have HM1 := Lib.hid hm
  have HS := Lib.hid hS
  have HT_ := Lib.hid hT
  have HLO := Lib.hid hlo
  have HMO := Lib.hid hmo
  have HAE := Lib.hid hA
  have HBE := Lib.hid hB
  have HW := Lib.hid hW
  have HWN := Lib.hid hn
  clear hl hm hS hT hlo hmo hA hB hW hn
  go_enter Tryz.func4, Tryz.ntmps4
  go_wp2_with fail
  with_reducible refine (l8_awake _).mono ?_
  rintro e w1 ⟨rfl, hb⟩
  replace hs := bStep hs hb
  clear hb
  have q1 : ¬ (70 < l.length) := (by omega)
  have q1d : ((70 : Int) < (l.length : Int)) = False := eq_false (by omega)
  have q2 : ¬ (70 < m.length) := (by omega)
  have q2d : ((70 : Int) < (m.length : Int)) = False := eq_false (by omega)
  go_wp2_with fail
  with_reducible refine (l8_small24 _ l _ (HL1.out.mono FC.kept hs)).mono ?_
  rintro e w2 ⟨rfl, hb⟩
  replace hs := bStep hs hb
  clear hb
  obtain ⟨b3, Hb3⟩ : ∃ b : Bool, b = l.all smF24 := ⟨_, rfl⟩
  rw [← Hb3]
  replace Hb3 := Lib.hid Hb3
  have q4 : l.all smF24 = true := HS.out
  obtain rfl : b3 = true := by rw [Hb3.out]; exact q4
  have q4H := Lib.hid q4
  clear q4
  go_wp2_with fail
  with_reducible refine (l8_small24 _ m _ (HM1.out.mono FC.kept hs)).mono ?_
  rintro e w3 ⟨rfl, hb⟩
  replace hs := bStep hs hb
  clear hb
  obtain ⟨b5, Hb5⟩ : ∃ b : Bool, b = m.all smF24 := ⟨_, rfl⟩
  rw [← Hb5]
  replace Hb5 := Lib.hid Hb5
  have q6 : m.all smF24 = true := HT_.out
  obtain rfl : b5 = true := by rw [Hb5.out]; exact q6
  have q6H := Lib.hid q6
  clear q6
  go_wp2_with fail
  with_reducible refine (l8_list _ l _ (HL1.out.mono FC.kept hs) (by omega) HLO.out).mono ?_
  rintro e w4 ⟨_, _, rfl, pA7, rA8, hb⟩
  rw [HAE.out] at pA7
  obtain ⟨apA7, kpA7, rfl, pA71, pA72, -⟩ := pA7.toI.slice
  rw [HAE.out] at rA8
  obtain ⟨arA8, krA8, rfl, rA81, rA82, -⟩ := rA8.toI.slice
  replace hs := bStep hs hb
  clear hb
  go_wp2_with fail
  with_reducible refine (l8_list _ m _ (HM1.out.mono FC.kept hs) (by omega) HMO.out).mono ?_
  rintro e w5 ⟨_, _, rfl, pB9, rB10, hb⟩
  rw [HBE.out] at pB9
  obtain ⟨apB9, kpB9, rfl, pB91, pB92, -⟩ := pB9.toI.slice
  rw [HBE.out] at rB10
  obtain ⟨arB10, krB10, rfl, rB101, rB102, -⟩ := rB10.toI.slice
  replace hs := bStep hs hb
  replace pA7 := rowsJ PC.kept _ _ _ pA7 hb
  replace rA8 := rowsJ RC.kept _ _ _ rA8 hb
  clear hb
  go_wp2_with fail
  with_reducible refine (r8_Two_all _ rA8 rB10 HW.out).mono ?_
  rintro e w6 ⟨rfl, hb⟩
  replace hs := bStep hs hb
  replace pA7 := rowsJ PC.kept _ _ _ pA7 hb
  replace rA8 := rowsJ RC.kept _ _ _ rA8 hb
  replace pB9 := rowsJ PC.kept _ _ _ pB9 hb
  replace rB10 := rowsJ RC.kept _ _ _ rB10 hb
  clear hb
  have q11 : ¬ (W = 0) := HWN.out
  have q11b : (W == 0) = false := beq_eq_false_iff_ne.2 (by omega)
  have q11n : (W != 0) = true := bne_iff_ne.2 (by omega)
  have q11H := Lib.hid q11
  clear q11
  go_wp2_with fail
  with_reducible refine (al_RankSum_bad _ pA7 pB9 HW.out HWN.out).mono ?_
  rintro e w7 ⟨rfl, hb⟩
  replace hs := bStep hs hb
  replace pA7 := rowsJ PC.kept _ _ _ pA7 hb
  replace rA8 := rowsJ RC.kept _ _ _ rA8 hb
  replace pB9 := rowsJ PC.kept _ _ _ pB9 hb
  replace rB10 := rowsJ RC.kept _ _ _ rB10 hb
  clear hb
  go_wp2_with fail
  with_reducible refine (r8_RankSum_bad _ rA8 rB10 HW.out HWN.out).mono ?_
  rintro e w8 ⟨rfl, hb⟩
  replace hs := bStep hs hb
  replace pA7 := rowsJ PC.kept _ _ _ pA7 hb
  replace rA8 := rowsJ RC.kept _ _ _ rA8 hb
  replace pB9 := rowsJ PC.kept _ _ _ pB9 hb
  replace rB10 := rowsJ RC.kept _ _ _ rB10 hb
  clear hb
  go_wp2_with fail
  with_reducible refine (al_Alike_bad _ pA7 pB9 HW.out HWN.out).mono ?_
  rintro e w9 ⟨_, rfl, h12, hb⟩
  obtain ⟨sh12, ah12, nh12, ch12, Ah12, Nh12, Ch12, rfl⟩ := h12.shape
  replace hs := bStep hs hb
  replace pA7 := rowsJ PC.kept _ _ _ pA7 hb
  replace rA8 := rowsJ RC.kept _ _ _ rA8 hb
  replace pB9 := rowsJ PC.kept _ _ _ pB9 hb
  replace rB10 := rowsJ RC.kept _ _ _ rB10 hb
  clear hb
  go_wp2_with fail
  refine Calls.abs ?_
  intro w10 hW
  have hG : Gr [] w9 w10 := by rw [hW]; exact (Gr.refl _ _).alloc
  have hbw : Below w.heap.size w9 w10 := hG.below0 hs.size
  have hk : KeepD w9 w10 := hG.keep True.intro
  have sz_w10 : w.heap.size ≤ w9.heap.size := hs.size
  have Blu : Bx w10 (w9.heap.size) 29 #[.bool sh12, .slice ah12 nh12 ch12, .slice Ah12 Nh12 Ch12] := by rw [hW]; exact (Bx.new0 _ _ _)
  replace hs := hs.trans hbw
  replace pA7 := rowsJ PC.kept _ _ _ pA7 (hG.below0 (Nat.le_refl _))
  replace rA8 := rowsJ RC.kept _ _ _ rA8 (hG.below0 (Nat.le_refl _))
  replace pB9 := rowsJ PC.kept _ _ _ pB9 (hG.below0 (Nat.le_refl _))
  replace rB10 := rowsJ RC.kept _ _ _ rB10 (hG.below0 (Nat.le_refl _))
  replace h12 := h12.keep hk
  clear hW hG hk hbw
  have hz_w10 : w9.heap.size < w10.heap.size := Blu.lt
  with_reducible refine (r8_Alike_bad _ rA8 rB10 HW.out HWN.out).mono ?_
  rintro e w11 ⟨_, rfl, h13, hb⟩
  obtain ⟨sh13, ah13, nh13, ch13, Ah13, Nh13, Ch13, rfl⟩ := h13.shape
  replace hs := bStep hs hb
  replace Blu := Blu.mono hb
  replace h12 := h12.mono hb
  replace pA7 := rowsJ PC.kept _ _ _ pA7 hb
  replace rA8 := rowsJ RC.kept _ _ _ rA8 hb
  replace pB9 := rowsJ PC.kept _ _ _ pB9 hb
  replace rB10 := rowsJ RC.kept _ _ _ rB10 hb
  clear hb
  have q14b : (W == W) = true := beq_self_eq_true _
  have q14n : (W != W) = false := bne_self_eq_false _
  have q15b : (W == W) = true := beq_self_eq_true _
  have q15n : (W != W) = false := bne_self_eq_false _
  have cu_0 : w11.cell? ⟨w9.heap.size, 0, none⟩ = some (.bool sh12) := Blu.at 0 rfl
  have cu_1 : w11.cell? ⟨w9.heap.size, 1, none⟩ = some (.slice ah12 nh12 ch12) := Blu.at 1 rfl
  have cu_2 : w11.cell? ⟨w9.heap.size, 2, none⟩ = some (.slice Ah12 Nh12 Ch12) := Blu.at 2 rfl
  have Lu : w9.heap.size < w11.heap.size := Blu.lt
  go_wp2_with fail
  clear cu_0 cu_1 cu_2 Lu
  refine Calls.abs ?_
  intro w12 hW
  have hG : Gr [] w11 w12 := by rw [hW]; exact (Gr.refl _ _).alloc
  have hbw : Below w.heap.size w11 w12 := hG.below0 hs.size
  have hk : KeepD w11 w12 := hG.keep True.intro
  have sz_w12 : w.heap.size ≤ w11.heap.size := hs.size
  have nu_w12 : w9.heap.size < w11.heap.size := Blu.lt
  have Blv : Bx w12 (w11.heap.size) 36 #[.bool sh13, .slice ah13 nh13 ch13, .slice Ah13 Nh13 Ch13] := by rw [hW]; exact (Bx.new0 _ _ _)
  replace hs := hs.trans hbw
  replace pA7 := rowsJ PC.kept _ _ _ pA7 (hG.below0 (Nat.le_refl _))
  replace rA8 := rowsJ RC.kept _ _ _ rA8 (hG.below0 (Nat.le_refl _))
  replace pB9 := rowsJ PC.kept _ _ _ pB9 (hG.below0 (Nat.le_refl _))
  replace rB10 := rowsJ RC.kept _ _ _ rB10 (hG.below0 (Nat.le_refl _))
  replace Blu := hG.bx Blu notMem0
  replace h12 := h12.keep hk
  replace h13 := h13.keep hk
  clear hW hG hk hbw
  have hz_w12 : w11.heap.size < w12.heap.size := Blv.lt
  with_reducible refine (l1_Is _ _ _ _ h12 h13 (SzQ.fit szQ_zero)).mono ?_
  rintro e w13 ⟨rfl, hb⟩
  replace hs := bStep hs hb
  replace Blu := Blu.mono hb
  replace Blv := Blv.mono hb
  replace h12 := h12.mono hb
  replace h13 := h13.mono hb
  replace pA7 := rowsJ PC.kept _ _ _ pA7 hb
  replace rA8 := rowsJ RC.kept _ _ _ rA8 hb
  replace pB9 := rowsJ PC.kept _ _ _ pB9 hb
  replace rB10 := rowsJ RC.kept _ _ _ rB10 hb
  clear hb
  go_wp2
  go_ret
  exact ⟨rfl, hs⟩

set_option maxRecDepth 100000 in
set_option maxHeartbeats 16000000 in
theorem l8_Alikes_six (v0 v1 : Value) (l m : List (Int × Int)) (w : World) (hl : RowsI 2 FC w v0 l) (hm : RowsI 2 FC w v1 m) (k1 : l.length ≤ 70) (k2 : m.length ≤ 70) (hS : l.all smF24 = true) (hT : m.all smF24 = true) (hlo : ∀ x ∈ l, DOk x) (hmo : ∀ x ∈ m, DOk x) (A B : List Rat) (hA : l.map fr8 = A) (hB : m.map fr8 = B) (hW : twE A B = 0) (h6 : 6 < l.length) :
    Calls Tryz.prog 4 #[v0, v1] w (RetV w (.bool true)) := by
  obtain ⟨a0, c0, rfl, hc1, hc2, hc3⟩ := hl.slice
  obtain ⟨a1, c1, rfl, hd1, hd2, hd3⟩ := hm.slice
  have hs := Below.refl w.heap.size w
  have HL1 := Lib.hid hl
  have HM1 := Lib.hid hm
  have HS := Lib.hid hS
  have HT_ := Lib.hid hT
  have HLO := Lib.hid hlo
  have HMO := Lib.hid hmo
  have HAE := Lib.hid hA
  have HBE := Lib.hid hB
  have HW := Lib.hid hW
  clear hl hm hS hT hlo hmo hA hB hW
  go_enter Tryz.func4, Tryz.ntmps4
  go_wp2_with fail
  with_reducible refine (l8_awake _).mono ?_
  rintro e w1 ⟨rfl, hb⟩
  replace hs := bStep hs hb
  clear hb
  have q1 : ¬ (70 < l.length) := (by omega)
  have q1d : ((70 : Int) < (l.length : Int)) = False := eq_false (by omega)
  have q2 : ¬ (70 < m.length) := (by omega)
  have q2d : ((70 : Int) < (m.length : Int)) = False := eq_false (by omega)
  go_wp2_with fail
  with_reducible refine (l8_small24 _ l _ (HL1.out.mono FC.kept hs)).mono ?_
  rintro e w2 ⟨rfl, hb⟩
  replace hs := bStep hs hb
  clear hb
  obtain ⟨b3, Hb3⟩ : ∃ b : Bool, b = l.all smF24 := ⟨_, rfl⟩
  rw [← Hb3]
  replace Hb3 := Lib.hid Hb3
  have q4 : l.all smF24 = true := HS.out
  obtain rfl : b3 = true := by rw [Hb3.out]; exact q4
  have q4H := Lib.hid q4
  clear q4
  go_wp2_with fail
  with_reducible refine (l8_small24 _ m _ (HM1.out.mono FC.kept hs)).mono ?_
  rintro e w3 ⟨rfl, hb⟩
  replace hs := bStep hs hb
  clear hb
  obtain ⟨b5, Hb5⟩ : ∃ b : Bool, b = m.all smF24 := ⟨_, rfl⟩
  rw [← Hb5]
  replace Hb5 := Lib.hid Hb5
  have q6 : m.all smF24 = true := HT_.out
  obtain rfl : b5 = true := by rw [Hb5.out]; exact q6
  have q6H := Lib.hid q6
  clear q6
  go_wp2_with fail
  with_reducible refine (l8_list _ l _ (HL1.out.mono FC.kept hs) (by omega) HLO.out).mono ?_
  rintro e w4 ⟨_, _, rfl, pA7, rA8, hb⟩
  rw [HAE.out] at pA7
  obtain ⟨apA7, kpA7, rfl, pA71, pA72, -⟩ := pA7.toI.slice
  rw [HAE.out] at rA8
  obtain ⟨arA8, krA8, rfl, rA81, rA82, -⟩ := rA8.toI.slice
  replace hs := bStep hs hb
  clear hb
  go_wp2_with fail
  with_reducible refine (l8_list _ m _ (HM1.out.mono FC.kept hs) (by omega) HMO.out).mono ?_
  rintro e w5 ⟨_, _, rfl, pB9, rB10, hb⟩
  rw [HBE.out] at pB9
  obtain ⟨apB9, kpB9, rfl, pB91, pB92, -⟩ := pB9.toI.slice
  rw [HBE.out] at rB10
  obtain ⟨arB10, krB10, rfl, rB101, rB102, -⟩ := rB10.toI.slice
  replace hs := bStep hs hb
  replace pA7 := rowsJ PC.kept _ _ _ pA7 hb
  replace rA8 := rowsJ RC.kept _ _ _ rA8 hb
  clear hb
  go_wp2_with fail
  with_reducible refine (r8_Two_all _ rA8 rB10 HW.out).mono ?_
  rintro e w6 ⟨rfl, hb⟩
  replace hs := bStep hs hb
  replace pA7 := rowsJ PC.kept _ _ _ pA7 hb
  replace rA8 := rowsJ RC.kept _ _ _ rA8 hb
  replace pB9 := rowsJ PC.kept _ _ _ pB9 hb
  replace rB10 := rowsJ RC.kept _ _ _ rB10 hb
  clear hb
  have q11 : 6 < l.length := (by omega)
  have q11d : ((6 : Int) < (l.length : Int)) = True := eq_true (by omega)
  go_wp2
  go_ret
  exact ⟨rfl, hs⟩

set_option maxRecDepth 100000 in
set_option maxHeartbeats 16000000 in
theorem l8_Alikes_sim (v0 v1 : Value) (l m : List (Int × Int)) (w : World) (hl : RowsI 2 FC w v0 l) (hm : RowsI 2 FC w v1 m) (k1 : l.length ≤ 70) (k2 : m.length ≤ 70) (hS : l.all smF24 = true) (hT : m.all smF24 = true) (hlo : ∀ x ∈ l, DOk x) (hmo : ∀ x ∈ m, DOk x) (A B : List Rat) (hA : l.map fr8 = A) (hB : m.map fr8 = B) (hW : twE A B = 0) (h6 : l.length ≤ 6) (h7 : 6 < m.length) :
    Calls Tryz.prog 4 #[v0, v1] w (RetV w (.bool true)) := by
  obtain ⟨a0, c0, rfl, hc1, hc2, hc3⟩ := hl.slice
  obtain ⟨a1, c1, rfl, hd1, hd2, hd3⟩ := hm.slice
  have hs := Below.refl w.heap.size w
  have HL1 := Lib.hid hl
  have HM1 := Lib.hid hm
  have HS := Lib.hid hS
  have HT_ := Lib.hid hT
  have HLO := Lib.hid hlo
  have HMO := Lib.hid hmo
  have HAE := Lib.hid hA
  have HBE := Lib.hid hB
  have HW := Lib.hid hW
  clear hl hm hS hT hlo hmo hA hB hW
  go_enter Tryz.func4, Tryz.ntmps4
  go_wp2_with fail
  with_reducible refine (l8_awake _).mono ?_
  rintro e w1 ⟨rfl, hb⟩
  replace hs := bStep hs hb
  clear hb
  have q1 : ¬ (70 < l.length) := (by omega)
  have q1d : ((70 : Int) < (l.length : Int)) = False := eq_false (by omega)
  have q2 : ¬ (70 < m.length) := (by omega)
  have q2d : ((70 : Int) < (m.length : Int)) = False := eq_false (by omega)
  go_wp2_with fail
  with_reducible refine (l8_small24 _ l _ (HL1.out.mono FC.kept hs)).mono ?_
  rintro e w2 ⟨rfl, hb⟩
  replace hs := bStep hs hb
  clear hb
  obtain ⟨b3, Hb3⟩ : ∃ b : Bool, b = l.all smF24 := ⟨_, rfl⟩
  rw [← Hb3]
  replace Hb3 := Lib.hid Hb3
  have q4 : l.all smF24 = true := HS.out
  obtain rfl : b3 = true := by rw [Hb3.out]; exact q4
  have q4H := Lib.hid q4
  clear q4
  go_wp2_with fail
  with_reducible refine (l8_small24 _ m _ (HM1.out.mono FC.kept hs)).mono ?_
  rintro e w3 ⟨rfl, hb⟩
  replace hs := bStep hs hb
  clear hb
  obtain ⟨b5, Hb5⟩ : ∃ b : Bool, b = m.all smF24 := ⟨_, rfl⟩
  rw [← Hb5]
  replace Hb5 := Lib.hid Hb5
  have q6 : m.all smF24 = true := HT_.out
  obtain rfl : b5 = true := by rw [Hb5.out]; exact q6
  have q6H := Lib.hid q6
  clear q6
  go_wp2_with fail
  with_reducible refine (l8_list _ l _ (HL1.out.mono FC.kept hs) (by omega) HLO.out).mono ?_
  rintro e w4 ⟨_, _, rfl, pA7, rA8, hb⟩
  rw [HAE.out] at pA7
  obtain ⟨apA7, kpA7, rfl, pA71, pA72, -⟩ := pA7.toI.slice
  rw [HAE.out] at rA8
  obtain ⟨arA8, krA8, rfl, rA81, rA82, -⟩ := rA8.toI.slice
  replace hs := bStep hs hb
  clear hb
  go_wp2_with fail
  with_reducible refine (l8_list _ m _ (HM1.out.mono FC.kept hs) (by omega) HMO.out).mono ?_
  rintro e w5 ⟨_, _, rfl, pB9, rB10, hb⟩
  rw [HBE.out] at pB9
  obtain ⟨apB9, kpB9, rfl, pB91, pB92, -⟩ := pB9.toI.slice
  rw [HBE.out] at rB10
  obtain ⟨arB10, krB10, rfl, rB101, rB102, -⟩ := rB10.toI.slice
  replace hs := bStep hs hb
  replace pA7 := rowsJ PC.kept _ _ _ pA7 hb
  replace rA8 := rowsJ RC.kept _ _ _ rA8 hb
  clear hb
  go_wp2_with fail
  with_reducible refine (r8_Two_all _ rA8 rB10 HW.out).mono ?_
  rintro e w6 ⟨rfl, hb⟩
  replace hs := bStep hs hb
  replace pA7 := rowsJ PC.kept _ _ _ pA7 hb
  replace rA8 := rowsJ RC.kept _ _ _ rA8 hb
  replace pB9 := rowsJ PC.kept _ _ _ pB9 hb
  replace rB10 := rowsJ RC.kept _ _ _ rB10 hb
  clear hb
  have q11 : ¬ (6 < l.length) := (by omega)
  have q11d : ((6 : Int) < (l.length : Int)) = False := eq_false (by omega)
  have q12 : 6 < m.length := (by omega)
  have q12d : ((6 : Int) < (m.length : Int)) = True := eq_true (by omega)
  go_wp2
  go_ret
  exact ⟨rfl, hs⟩

set_option maxRecDepth 100000 in
set_option maxHeartbeats 16000000 in
theorem l8_Alikes_ok (v0 v1 : Value) (l m : List (Int × Int)) (w : World) (hl : RowsI 2 FC w v0 l) (hm : RowsI 2 FC w v1 m) (k1 : l.length ≤ 70) (k2 : m.length ≤ 70) (hS : l.all smF24 = true) (hT : m.all smF24 = true) (hlo : ∀ x ∈ l, DOk x) (hmo : ∀ x ∈ m, DOk x) (A B : List Rat) (hA : l.map fr8 = A) (hB : m.map fr8 = B) (hW : twE A B = 0) (h6 : l.length ≤ 6) (h7 : m.length ≤ 6) (h1 : 1 ≤ A.length) (h2 : 1 ≤ B.length) (h3 : A.length ≤ l.length) (h4 : B.length ≤ m.length) (hz : ∀ i, i < (A ++ B).length → SzQ 100000 (nthQ (A ++ B) i)) (t : Int) (ht : totS ((rkT (A ++ B) (A ++ B).length).take A.length) A.length = t) (ht2 : totS (rkT (A ++ B) (A ++ B).length) A.length = t) (q : Rat) (hq : alA A B = q) (sq : SzQ 1 q) :
    Calls Tryz.prog 4 #[v0, v1] w (RetV w (.bool true)) := by
  obtain ⟨a0, c0, rfl, hc1, hc2, hc3⟩ := hl.slice
  obtain ⟨a1, c1, rfl, hd1, hd2, hd3⟩ := hm.slice
  have hs := Below.refl w.heap.size w
  have HL1 := Lib.hid hl
  have HM1 := Lib.hid hm
  have HS := Lib.hid hS
  have HT_ := Lib.hid hT
  have HLO := Lib.hid hlo
  have HMO := Lib.hid hmo
  have HAE := Lib.hid hA
  have HBE := Lib.hid hB
  have HW := Lib.hid hW
  have HZ := Lib.hid hz
  have HT := Lib.hid ht
  have HT2 := Lib.hid ht2
  have HQ := Lib.hid hq
  clear hl hm hS hT hlo hmo hA hB hW hz ht ht2 hq
  go_enter Tryz.func4, Tryz.ntmps4
  go_wp2_with fail
  with_reducible refine (l8_awake _).mono ?_
  rintro e w1 ⟨rfl, hb⟩
  replace hs := bStep hs hb
  clear hb
  have q1 : ¬ (70 < l.length) := (by omega)
  have q1d : ((70 : Int) < (l.length : Int)) = False := eq_false (by omega)
  have q2 : ¬ (70 < m.length) := (by omega)
  have q2d : ((70 : Int) < (m.length : Int)) = False := eq_false (by omega)
  go_wp2_with fail
  with_reducible refine (l8_small24 _ l _ (HL1.out.mono FC.kept hs)).mono ?_
  rintro e w2 ⟨rfl, hb⟩
  replace hs := bStep hs hb
  clear hb
  obtain ⟨b3, Hb3⟩ : ∃ b : Bool, b = l.all smF24 := ⟨_, rfl⟩
  rw [← Hb3]
  replace Hb3 := Lib.hid Hb3
  have q4 : l.all smF24 = true := HS.out
  obtain rfl : b3 = true := by rw [Hb3.out]; exact q4
  have q4H := Lib.hid q4
  clear q4
  go_wp2_with fail
  with_reducible refine (l8_small24 _ m _ (HM1.out.mono FC.kept hs)).mono ?_
  rintro e w3 ⟨rfl, hb⟩
  replace hs := bStep hs hb
  clear hb
  obtain ⟨b5, Hb5⟩ : ∃ b : Bool, b = m.all smF24 := ⟨_, rfl⟩
  rw [← Hb5]
  replace Hb5 := Lib.hid Hb5
  have q6 : m.all smF24 = true := HT_.out
  obtain rfl : b5 = true := by rw [Hb5.out]; exact q6
  have q6H := Lib.hid q6
  clear q6
  go_wp2_with fail
  with_reducible refine (l8_list _ l _ (HL1.out.mono FC.kept hs) (by omega) HLO.out).mono ?_
  rintro e w4 ⟨_, _, rfl, pA7, rA8, hb⟩
  rw [HAE.out] at pA7
  obtain ⟨apA7, kpA7, rfl, pA71, pA72, -⟩ := pA7.toI.slice
  rw [HAE.out] at rA8
  obtain ⟨arA8, krA8, rfl, rA81, rA82, -⟩ := rA8.toI.slice
  replace hs := bStep hs hb
  clear hb
  go_wp2_with fail
  with_reducible refine (l8_list _ m _ (HM1.out.mono FC.kept hs) (by omega) HMO.out).mono ?_
  rintro e w5 ⟨_, _, rfl, pB9, rB10, hb⟩
  rw [HBE.out] at pB9
  obtain ⟨apB9, kpB9, rfl, pB91, pB92, -⟩ := pB9.toI.slice
  rw [HBE.out] at rB10
  obtain ⟨arB10, krB10, rfl, rB101, rB102, -⟩ := rB10.toI.slice
  replace hs := bStep hs hb
  replace pA7 := rowsJ PC.kept _ _ _ pA7 hb
  replace rA8 := rowsJ RC.kept _ _ _ rA8 hb
  clear hb
  go_wp2_with fail
  with_reducible refine (r8_Two_all _ rA8 rB10 HW.out).mono ?_
  rintro e w6 ⟨rfl, hb⟩
  replace hs := bStep hs hb
  replace pA7 := rowsJ PC.kept _ _ _ pA7 hb
  replace rA8 := rowsJ RC.kept _ _ _ rA8 hb
  replace pB9 := rowsJ PC.kept _ _ _ pB9 hb
  replace rB10 := rowsJ RC.kept _ _ _ rB10 hb
  clear hb
  have q11 : ¬ (6 < l.length) := (by omega)
  have q11d : ((6 : Int) < (l.length : Int)) = False := eq_false (by omega)
  have q12 : ¬ (6 < m.length) := (by omega)
  have q12d : ((6 : Int) < (m.length : Int)) = False := eq_false (by omega)
  go_wp2_with fail
  with_reducible refine (al_RankSum _ pA7 pB9 h1 h2 (by omega) rfl HZ.out rfl rfl HT.out).mono ?_
  rintro e w7 ⟨rfl, hb⟩
  replace hs := bStep hs hb
  replace pA7 := rowsJ PC.kept _ _ _ pA7 hb
  replace rA8 := rowsJ RC.kept _ _ _ rA8 hb
  replace pB9 := rowsJ PC.kept _ _ _ pB9 hb
  replace rB10 := rowsJ RC.kept _ _ _ rB10 hb
  clear hb
  go_wp2_with fail
  with_reducible refine (r8_RankSum _ rA8 rB10 h1 h2 (by omega) rfl HZ.out rfl HT2.out).mono ?_
  rintro e w8 ⟨rfl, hb⟩
  replace hs := bStep hs hb
  replace pA7 := rowsJ PC.kept _ _ _ pA7 hb
  replace rA8 := rowsJ RC.kept _ _ _ rA8 hb
  replace pB9 := rowsJ PC.kept _ _ _ pB9 hb
  replace rB10 := rowsJ RC.kept _ _ _ rB10 hb
  clear hb
  go_wp2_with fail
  with_reducible refine (al_Alike _ pA7 pB9 h1 h2 (by omega) HZ.out HQ.out sq).mono ?_
  rintro e w9 ⟨_, rfl, h13, hb⟩
  obtain ⟨sh13, ah13, nh13, ch13, Ah13, Nh13, Ch13, rfl⟩ := h13.shape
  replace hs := bStep hs hb
  replace pA7 := rowsJ PC.kept _ _ _ pA7 hb
  replace rA8 := rowsJ RC.kept _ _ _ rA8 hb
  replace pB9 := rowsJ PC.kept _ _ _ pB9 hb
  replace rB10 := rowsJ RC.kept _ _ _ rB10 hb
  clear hb
  go_wp2_with fail
  refine Calls.abs ?_
  intro w10 hW
  have hG : Gr [] w9 w10 := by rw [hW]; exact (Gr.refl _ _).alloc
  have hbw : Below w.heap.size w9 w10 := hG.below0 hs.size
  have hk : KeepD w9 w10 := hG.keep True.intro
  have sz_w10 : w.heap.size ≤ w9.heap.size := hs.size
  have Blu : Bx w10 (w9.heap.size) 29 #[.bool sh13, .slice ah13 nh13 ch13, .slice Ah13 Nh13 Ch13] := by rw [hW]; exact (Bx.new0 _ _ _)
  replace hs := hs.trans hbw
  replace pA7 := rowsJ PC.kept _ _ _ pA7 (hG.below0 (Nat.le_refl _))
  replace rA8 := rowsJ RC.kept _ _ _ rA8 (hG.below0 (Nat.le_refl _))
  replace pB9 := rowsJ PC.kept _ _ _ pB9 (hG.below0 (Nat.le_refl _))
  replace rB10 := rowsJ RC.kept _ _ _ rB10 (hG.below0 (Nat.le_refl _))
  replace h13 := h13.keep hk
  clear hW hG hk hbw
  have hz_w10 : w9.heap.size < w10.heap.size := Blu.lt
  with_reducible refine (r8_Alike _ rA8 rB10 h1 h2 (by omega) HZ.out HQ.out sq).mono ?_
  rintro e w11 ⟨_, rfl, h14, hb⟩
  obtain ⟨sh14, ah14, nh14, ch14, Ah14, Nh14, Ch14, rfl⟩ := h14.shape
  replace hs := bStep hs hb
  replace Blu := Blu.mono hb
  replace h13 := h13.mono hb
  replace pA7 := rowsJ PC.kept _ _ _ pA7 hb
  replace rA8 := rowsJ RC.kept _ _ _ rA8 hb
  replace pB9 := rowsJ PC.kept _ _ _ pB9 hb
  replace rB10 := rowsJ RC.kept _ _ _ rB10 hb
  clear hb
  have q15b : (t == t) = true := beq_self_eq_true _
  have q15n : (t != t) = false := bne_self_eq_false _
  have cu_0 : w11.cell? ⟨w9.heap.size, 0, none⟩ = some (.bool sh13) := Blu.at 0 rfl
  have cu_1 : w11.cell? ⟨w9.heap.size, 1, none⟩ = some (.slice ah13 nh13 ch13) := Blu.at 1 rfl
  have cu_2 : w11.cell? ⟨w9.heap.size, 2, none⟩ = some (.slice Ah13 Nh13 Ch13) := Blu.at 2 rfl
  have Lu : w9.heap.size < w11.heap.size := Blu.lt
  go_wp2_with fail
  clear cu_0 cu_1 cu_2 Lu
  refine Calls.abs ?_
  intro w12 hW
  have hG : Gr [] w11 w12 := by rw [hW]; exact (Gr.refl _ _).alloc
  have hbw : Below w.heap.size w11 w12 := hG.below0 hs.size
  have hk : KeepD w11 w12 := hG.keep True.intro
  have sz_w12 : w.heap.size ≤ w11.heap.size := hs.size
  have nu_w12 : w9.heap.size < w11.heap.size := Blu.lt
  have Blv : Bx w12 (w11.heap.size) 36 #[.bool sh14, .slice ah14 nh14 ch14, .slice Ah14 Nh14 Ch14] := by rw [hW]; exact (Bx.new0 _ _ _)
  replace hs := hs.trans hbw
  replace pA7 := rowsJ PC.kept _ _ _ pA7 (hG.below0 (Nat.le_refl _))
  replace rA8 := rowsJ RC.kept _ _ _ rA8 (hG.below0 (Nat.le_refl _))
  replace pB9 := rowsJ PC.kept _ _ _ pB9 (hG.below0 (Nat.le_refl _))
  replace rB10 := rowsJ RC.kept _ _ _ rB10 (hG.below0 (Nat.le_refl _))
  replace Blu := hG.bx Blu notMem0
  replace h13 := h13.keep hk
  replace h14 := h14.keep hk
  clear hW hG hk hbw
  have hz_w12 : w11.heap.size < w12.heap.size := Blv.lt
  with_reducible refine (l1_Is _ _ _ _ h13 h14 (SzQ.fit sq)).mono ?_
  rintro e w13 ⟨rfl, hb⟩
  replace hs := bStep hs hb
  replace Blu := Blu.mono hb
  replace Blv := Blv.mono hb
  replace h13 := h13.mono hb
  replace h14 := h14.mono hb
  replace pA7 := rowsJ PC.kept _ _ _ pA7 hb
  replace rA8 := rowsJ RC.kept _ _ _ rA8 hb
  replace pB9 := rowsJ PC.kept _ _ _ pB9 hb
  replace rB10 := rowsJ RC.kept _ _ _ rB10 hb
  clear hb
  go_wp2
  go_ret
  exact ⟨rfl, hs⟩

theorem appR_sz {A B : List Rat} (hA : ∀ i, i < A.length → SzQ 1 (nthQ A i)) (hB : ∀ i, i < B.length → SzQ 1 (nthQ B i)) (i : Nat) (hi : i < (A ++ B).length) : SzQ 100000 (nthQ (A ++ B) i) := by
  rw [List.length_append] at hi
  have e : nthQ (A ++ B) i = if i < A.length then nthQ A i else nthQ B (i - A.length) := by
    unfold nthQ
    rw [List.getD_eq_getElem?_getD]
    by_cases h : i < A.length
    · rw [if_pos h, List.getElem?_append_left h, List.getD_eq_getElem?_getD]
    · rw [if_neg h, List.getElem?_append_right (by omega), List.getD_eq_getElem?_getD]
  rw [e]
  by_cases h : i < A.length
  · rw [if_pos h]; exact (hA i h).mono (by decide)
  · rw [if_neg h]; exact (hB _ (by omega)).mono (by decide)
theorem l8_AllowAlikes (v0 v1 : Value) (l m : List (Int × Int)) (w : World) (hl : RowsI 2 FC w v0 l) (hm : RowsI 2 FC w v1 m) (hlo : ∀ x ∈ l, DOk x) (hmo : ∀ x ∈ m, DOk x) :
    Calls Tryz.prog 4 #[v0, v1] w (RetV w (.bool true)) := by
  by_cases h1 : 70 < l.length
  · exact l8_Alikes_b1 v0 v1 l m w hl hm h1
  · by_cases h2 : 70 < m.length
    · exact l8_Alikes_b2 v0 v1 l m w hl hm (by omega) h2
    · by_cases hS : l.all smF24 = true
      · by_cases hT : m.all smF24 = true
        · by_cases hW : twE (l.map fr8) (m.map fr8) = 0
          · by_cases h6 : 6 < l.length
            · exact l8_Alikes_six v0 v1 l m w hl hm (by omega) (by omega) hS hT hlo hmo _ _ rfl rfl hW h6
            · by_cases h7 : 6 < m.length
              · exact l8_Alikes_sim v0 v1 l m w hl hm (by omega) (by omega) hS hT hlo hmo _ _ rfl rfl hW (by omega) h7
              · obtain ⟨a1, b1, c1⟩ := twE_zero hW
                have la : (l.map fr8).length = l.length := by simp
                have lb : (m.map fr8).length = m.length := by simp
                exact l8_Alikes_ok v0 v1 l m w hl hm (by omega) (by omega) hS hT hlo hmo _ _ rfl rfl hW (by omega) (by omega) a1 b1 (by omega) (by omega) (appR_sz (fr8_sz hS) (fr8_sz hT)) _ rfl (totS_take _ _ (by rw [rkT_len, List.length_append]; omega)).symm _ rfl (alA_sz (by omega))
          · exact l8_Alikes_err v0 v1 l m w hl hm (by omega) (by omega) hS hT hlo hmo _ _ rfl rfl _ rfl hW
        · exact l8_Alikes_b4 v0 v1 l m w hl hm (by omega) (by omega) hS hT
      · exact l8_Alikes_b3 v0 v1 l m w hl hm (by omega) (by omega) hS
end Go.Proofs.YtmnipggjjcmjkaaGreat
