/-
  Law 07: ScanRings, over awake.
-/
import Derived.Test.YtkfekkhhfpkfaaaGreatRingEG
import Derived.Test.YtkfekkhhfpkfaaaGreatRingTG
import Derived.Test.YtkfekkhhfpkfaaaGreatAreG
import Derived.Test.YtkfekkhhfpkfaaaGreatPkSpanG
import Derived.Test.YtkfekkhhfpkfaaaGreatPkLawG
set_option linter.unusedSimpArgs false
set_option linter.unusedVariables false
set_option maxRecDepth 100000
set_option maxHeartbeats 16000000
namespace Go.Proofs.YtkfekkhhfpkfaaaGreat
open Go.RowKit Dg
attribute [local go_sem ↓] Go.wp_at_zero Go.wp_at_succ
theorem l7_ScanRings_dim (hAw : ∀ w : World, Calls Tryz.prog 8 #[] w (RetV w (.bool true))) (v : Value) (l : List (Int × Int)) (st : Int) (w : World) (hl : RowsI 2 FC w v l) (a0 : ¬ l.all tinyF = true) :
  Calls Tryz.prog 3 #[v, .int .i64 st] w (RetV w (.bool true)) := by
 obtain ⟨ao, cap, rfl, hc1, hc2, hc3⟩ := hl.slice
 have hs := Below.refl w.heap.size w
 have HAW := Lib.hid hAw
 have HL := Lib.hid hl
 have HT := Lib.hid a0
 clear hAw hl a0
 go_enter Tryz.func3, Tryz.ntmps3
 go_wp2_with fail
 with_reducible refine (l7_tiny _ l _ (HL.out.mono FC.kept hs)).mono ?_
 rintro e w1 ⟨rfl, hb⟩
 replace hs := bStep hs hb
 clear hb
 obtain ⟨b1, Hb1⟩ : ∃ b : Bool, b = l.all tinyF := ⟨_, rfl⟩
 rw [← Hb1]
 replace Hb1 := Lib.hid Hb1
 have q2 : ¬ (l.all tinyF = true) := HT.out
 obtain rfl : b1 = false := by rw [Hb1.out]; simpa using q2
 have q2H := Lib.hid q2
 clear q2
 go_wp2_with fail
 with_reducible refine (HAW.out _).mono ?_
 rintro e w2 ⟨rfl, hb⟩
 replace hs := bStep hs hb
 clear hb
 go_wp2
 go_ret
 exact ⟨rfl, hs⟩
theorem l7_ScanRings_mid (hAw : ∀ w : World, Calls Tryz.prog 8 #[] w (RetV w (.bool true))) (v : Value) (l : List (Int × Int)) (st : Int) (w : World) (hl : RowsI 2 FC w v l) (a0 : l.all tinyF = true) (h1 : 5 < l.length) (h2 : l.length ≤ 12) :
  Calls Tryz.prog 3 #[v, .int .i64 st] w (RetV w (.bool true)) := by
 obtain ⟨ao, cap, rfl, hc1, hc2, hc3⟩ := hl.slice
 have hs := Below.refl w.heap.size w
 have HAW := Lib.hid hAw
 have HL := Lib.hid hl
 have HT := Lib.hid a0
 clear hAw hl a0
 go_enter Tryz.func3, Tryz.ntmps3
 go_wp2_with fail
 with_reducible refine (l7_tiny _ l _ (HL.out.mono FC.kept hs)).mono ?_
 rintro e w1 ⟨rfl, hb⟩
 replace hs := bStep hs hb
 clear hb
 obtain ⟨b1, Hb1⟩ : ∃ b : Bool, b = l.all tinyF := ⟨_, rfl⟩
 rw [← Hb1]
 replace Hb1 := Lib.hid Hb1
 have q2 : l.all tinyF = true := HT.out
 obtain rfl : b1 = true := by rw [Hb1.out]; exact q2
 have q2H := Lib.hid q2
 clear q2
 have q3 : 5 < l.length := by omega
 have q3d : ((5 : Int) < (l.length : Int)) = True := eq_true (by omega)
 have q4 : l.length ≤ 12 := by omega
 have q4d : ((l.length : Int) ≤ 12) = True := eq_true (by omega)
 go_wp2_with fail
 with_reducible refine (HAW.out _).mono ?_
 rintro e w2 ⟨rfl, hb⟩
 replace hs := bStep hs hb
 clear hb
 go_wp2
 go_ret
 exact ⟨rfl, hs⟩
theorem l7_ScanRings_long (hAw : ∀ w : World, Calls Tryz.prog 8 #[] w (RetV w (.bool true))) (v : Value) (l : List (Int × Int)) (st : Int) (w : World) (hl : RowsI 2 FC w v l) (a0 : l.all tinyF = true) (h1 : 20 < l.length) :
  Calls Tryz.prog 3 #[v, .int .i64 st] w (RetV w (.bool true)) := by
 obtain ⟨ao, cap, rfl, hc1, hc2, hc3⟩ := hl.slice
 have hs := Below.refl w.heap.size w
 have HAW := Lib.hid hAw
 have HL := Lib.hid hl
 have HT := Lib.hid a0
 clear hAw hl a0
 go_enter Tryz.func3, Tryz.ntmps3
 go_wp2_with fail
 with_reducible refine (l7_tiny _ l _ (HL.out.mono FC.kept hs)).mono ?_
 rintro e w1 ⟨rfl, hb⟩
 replace hs := bStep hs hb
 clear hb
 obtain ⟨b1, Hb1⟩ : ∃ b : Bool, b = l.all tinyF := ⟨_, rfl⟩
 rw [← Hb1]
 replace Hb1 := Lib.hid Hb1
 have q2 : l.all tinyF = true := HT.out
 obtain rfl : b1 = true := by rw [Hb1.out]; exact q2
 have q2H := Lib.hid q2
 clear q2
 have q3 : 5 < l.length := by omega
 have q3d : ((5 : Int) < (l.length : Int)) = True := eq_true (by omega)
 have q4 : ¬ (l.length ≤ 12) := by omega
 have q4d : ((l.length : Int) ≤ 12) = False := eq_false (by omega)
 have q5 : 20 < l.length := by omega
 have q5d : ((20 : Int) < (l.length : Int)) = True := eq_true (by omega)
 go_wp2_with fail
 with_reducible refine (HAW.out _).mono ?_
 rintro e w2 ⟨rfl, hb⟩
 replace hs := bStep hs hb
 clear hb
 go_wp2
 go_ret
 exact ⟨rfl, hs⟩
theorem l7_ScanRings_smid (hAw : ∀ w : World, Calls Tryz.prog 8 #[] w (RetV w (.bool true))) (v : Value) (l : List (Int × Int)) (st : Int) (w : World) (hl : RowsI 2 FC w v l) (a0 : l.all tinyF = true) (h1 : l.length ≤ 5 ∨ 12 < l.length) (h2 : l.length ≤ 20) (h3 : 6 < st) (h4 : st ≤ 16) :
  Calls Tryz.prog 3 #[v, .int .i64 st] w (RetV w (.bool true)) := by
 obtain ⟨ao, cap, rfl, hc1, hc2, hc3⟩ := hl.slice
 have hs := Below.refl w.heap.size w
 have HAW := Lib.hid hAw
 have HL := Lib.hid hl
 have HT := Lib.hid a0
 clear hAw hl a0
 go_enter Tryz.func3, Tryz.ntmps3
 go_wp2_with fail
 with_reducible refine (l7_tiny _ l _ (HL.out.mono FC.kept hs)).mono ?_
 rintro e w1 ⟨rfl, hb⟩
 replace hs := bStep hs hb
 clear hb
 obtain ⟨b1, Hb1⟩ : ∃ b : Bool, b = l.all tinyF := ⟨_, rfl⟩
 rw [← Hb1]
 replace Hb1 := Lib.hid Hb1
 have q2 : l.all tinyF = true := HT.out
 obtain rfl : b1 = true := by rw [Hb1.out]; exact q2
 have q2H := Lib.hid q2
 clear q2
 by_cases q3 : 5 < l.length
 ·have q3d : ((5 : Int) < (l.length : Int)) = True := eq_true (by omega)
  have q4 : ¬ (l.length ≤ 12) := by omega
  have q4d : ((l.length : Int) ≤ 12) = False := eq_false (by omega)
  have q5 : ¬ (20 < l.length) := by omega
  have q5d : ((20 : Int) < (l.length : Int)) = False := eq_false (by omega)
  have q6 : 6 < st := by omega
  have q6d : ((6 : Int) < st) = True := eq_true (by omega)
  have q7 : st ≤ 16 := by omega
  have q7d : (st ≤ 16) = True := eq_true (by omega)
  go_wp2_with fail
  with_reducible refine (HAW.out _).mono ?_
  rintro e w2 ⟨rfl, hb⟩
  replace hs := bStep hs hb
  clear hb
  go_wp2
  go_ret
  exact ⟨rfl, hs⟩
 ·have q3d : ((5 : Int) < (l.length : Int)) = False := eq_false (by omega)
  have q4 : ¬ (20 < l.length) := by omega
  have q4d : ((20 : Int) < (l.length : Int)) = False := eq_false (by omega)
  have q5 : 6 < st := by omega
  have q5d : ((6 : Int) < st) = True := eq_true (by omega)
  have q6 : st ≤ 16 := by omega
  have q6d : (st ≤ 16) = True := eq_true (by omega)
  go_wp2_with fail
  with_reducible refine (HAW.out _).mono ?_
  rintro e w2 ⟨rfl, hb⟩
  replace hs := bStep hs hb
  clear hb
  go_wp2
  go_ret
  exact ⟨rfl, hs⟩
theorem sc_RingE {v : Value} {L : List Rat} {st : Int} {B T : List Rat} {I : Rat} {ec : Int} (w : World) (hl : Rows 3 32 PC w v L) (hz : ∀ i, i < L.length → SzQ 1 (nthQ L i)) (h5 : L.length ≤ 5 ∨ 12 < L.length) (h6 : st ≤ 6 ∨ 16 < st) (hB : rngB L st = B) (hT : rngT L st = T) (hI : rngI L st = I) (hE : rngE L st = ec) :
  Calls Tryz.prog 10 #[v, .int .i64 st] w (Ret4 (fun w v => Rows 3 32 PC w v B) (fun w v => Rows 3 32 PC w v T) (fun w v => PV w v I) (fun _ v => v = .int .i64 ec) w) := by
 subst hB hT hI hE
 exact sc_Ring_all v L st w hl hz h5 h6
theorem r7_RingE {v : Value} {L : List Rat} {st : Int} {B T : List Rat} {I : Rat} {ec : Int} (w : World) (hl : Rows 3 38 RC w v L) (hz : ∀ i, i < L.length → SzQ 1 (nthQ L i)) (h5 : L.length ≤ 5 ∨ 12 < L.length) (h6 : st ≤ 6 ∨ 16 < st) (hB : rngB L st = B) (hT : rngT L st = T) (hI : rngI L st = I) (hE : rngE L st = ec) :
  Calls Tryz.prog 11 #[v, .int .i64 st] w (Ret4 (fun w v => Rows 3 38 RC w v B) (fun w v => Rows 3 38 RC w v T) (fun w v => RV w v I) (fun _ v => v = .int .i64 ec) w) := by
 subst hB hT hI hE
 exact r7_Ring_all v L st w hl hz h5 h6
theorem l7_ScanRings_ok (hAw : ∀ w : World, Calls Tryz.prog 8 #[] w (RetV w (.bool true))) (v : Value) (l : List (Int × Int)) (st : Int) (w : World) (hl : RowsI 2 FC w v l) (hok : ∀ x ∈ l, DOk x) (a0 : l.all tinyF = true) (h1 : l.length ≤ 5 ∨ 12 < l.length) (h2 : l.length ≤ 20) (h3 : st ≤ 6 ∨ 16 < st)
  (L : List Rat) (hLL : L = l.map frF) (hLl : L.length = l.length) (hz : ∀ i, i < L.length → SzQ 1 (nthQ L i)) (B T : List Rat) (I : Rat) (ec : Int) (hB : rngB L st = B) (hT : rngT L st = T) (hI : rngI L st = I) (hE : rngE L st = ec) (zB : ∀ i, i < B.length → SzQ 30000 (nthQ B i)) (zT : ∀ i, i < T.length → SzQ 30000 (nthQ T i)) (sI : SzQ 100000 I) :
  Calls Tryz.prog 3 #[v, .int .i64 st] w (RetV w (.bool true)) := by
 obtain ⟨ao, cap, rfl, hc1, hc2, hc3⟩ := hl.slice
 have hs := Below.refl w.heap.size w
 have HAW := Lib.hid hAw
 have HL := Lib.hid hl
 have h1L : L.length ≤ 5 ∨ 12 < L.length := by omega
 have HOK := Lib.hid hok
 have HLL := Lib.hid hLL
 have HZ := Lib.hid hz
 have HBQ := Lib.hid hB
 have HTQ := Lib.hid hT
 have HIQ := Lib.hid hI
 have HEQ := Lib.hid hE
 have HZB := Lib.hid zB
 have HZT := Lib.hid zT
 have HT := Lib.hid a0
 clear hAw hl a0 hok hLL hLl hz hB hT hI hE zB zT
 go_enter Tryz.func3, Tryz.ntmps3
 go_upto_region 1 with fail
 go_cut [15, 16, 17, 18, 19, 20, 21, 22, 23, 24, 25, 26, 27, 28, 29, 30, 31, 32, 33, 34, 35, 36, 37, 38, 39, 40] (fun k15 k16 k17 k18 k19 k20 k21 k22 k23 k24 k25 k26 k27 k28 k29 k30 k31 k32 k33 k34 k35 k36 k37 k38 k39 k40 wz => k40 = .bool false ∧ Below w.heap.size w wz)
 case first =>
  go_wp2_with fail
  with_reducible refine (l7_tiny _ l _ (HL.out.mono FC.kept hs)).mono ?_
  rintro e w1 ⟨rfl, hb⟩
  replace hs := bStep hs hb
  clear hb
  obtain ⟨b1, Hb1⟩ : ∃ b : Bool, b = l.all tinyF := ⟨_, rfl⟩
  rw [← Hb1]
  replace Hb1 := Lib.hid Hb1
  have q2 : l.all tinyF = true := HT.out
  obtain rfl : b1 = true := by rw [Hb1.out]; exact q2
  have q2H := Lib.hid q2
  clear q2
  by_cases q3 : 5 < l.length
  ·have q3d : ((5 : Int) < (l.length : Int)) = True := eq_true (by omega)
   have q4 : ¬ (l.length ≤ 12) := by omega
   have q4d : ((l.length : Int) ≤ 12) = False := eq_false (by omega)
   have q5 : ¬ (20 < l.length) := by omega
   have q5d : ((20 : Int) < (l.length : Int)) = False := eq_false (by omega)
   by_cases q6 : 6 < st
   ·have q6d : ((6 : Int) < st) = True := eq_true (by omega)
    go_wp2_with fail
    go_meet
    exact ⟨(by first | rfl | (simp; omega)), hs⟩
   ·have q6d : ((6 : Int) < st) = False := eq_false (by omega)
    go_wp2_with fail
    go_meet
    exact ⟨(by first | rfl | (simp; omega)), hs⟩
  ·have q3d : ((5 : Int) < (l.length : Int)) = False := eq_false (by omega)
   have q4 : ¬ (20 < l.length) := by omega
   have q4d : ((20 : Int) < (l.length : Int)) = False := eq_false (by omega)
   by_cases q5 : 6 < st
   ·have q5d : ((6 : Int) < st) = True := eq_true (by omega)
    go_wp2_with fail
    go_meet
    exact ⟨(by first | rfl | (simp; omega)), hs⟩
   ·have q5d : ((6 : Int) < st) = False := eq_false (by omega)
    go_wp2_with fail
    go_meet
    exact ⟨(by first | rfl | (simp; omega)), hs⟩
 case rest =>
  clear hs
  obtain ⟨rfl, hs⟩ := hcut
  go_wp2_with fail
  with_reducible refine (l7_numbers _ l _ (HL.out.mono FC.kept hs) h2 HOK.out).mono ?_
  rintro e w1 ⟨_, _, rfl, hP1, hR2, hb⟩
  rw [← HLL.out] at hP1
  obtain ⟨ahP1, khP1, rfl, hP11, hP12, -⟩ := hP1.toI.slice
  rw [← HLL.out] at hR2
  obtain ⟨ahR2, khR2, rfl, hR21, hR22, -⟩ := hR2.toI.slice
  replace hs := bStep hs hb
  clear hb
  go_wp2_with fail
  with_reducible refine (sc_RingE _ hP1 HZ.out h1L h3 HBQ.out HTQ.out HIQ.out HEQ.out).mono ?_
  rintro e w2 ⟨_, _, _, _, rfl, hB3, hT4, h5, rfl, hb⟩
  obtain ⟨ahB3, khB3, rfl, hB31, hB32, -⟩ := hB3.toI.slice
  obtain ⟨ahT4, khT4, rfl, hT41, hT42, -⟩ := hT4.toI.slice
  obtain ⟨sh5, ah5, nh5, ch5, Ah5, Nh5, Ch5, rfl⟩ := h5.shape
  replace hs := bStep hs hb
  replace hP1 := rowsJ PC.kept _ _ _ hP1 hb
  replace hR2 := rowsJ RC.kept _ _ _ hR2 hb
  clear hb
  go_wp2_with fail
  refine Calls.abs ?_
  intro w3 hW
  have hG : Gr [] w2 w3 := by rw [hW]; exact (Gr.refl _ _).alloc
  have hbw : Below w.heap.size w2 w3 := hG.below0 hs.size
  have hk : KeepD w2 w3 := hG.keep True.intro
  have sz_w3 : w.heap.size ≤ w2.heap.size := hs.size
  have Bli : Bx w3 (w2.heap.size) 32 #[.bool sh5, .slice ah5 nh5 ch5, .slice Ah5 Nh5 Ch5] := by rw [hW]; exact (Bx.new0 _ _ _)
  replace hs := hs.trans hbw
  replace hP1 := rowsJ PC.kept _ _ _ hP1 (hG.below0 (Nat.le_refl _))
  replace hR2 := rowsJ RC.kept _ _ _ hR2 (hG.below0 (Nat.le_refl _))
  replace hB3 := rowsJ PC.kept _ _ _ hB3 (hG.below0 (Nat.le_refl _))
  replace hT4 := rowsJ PC.kept _ _ _ hT4 (hG.below0 (Nat.le_refl _))
  replace h5 := h5.keep hk
  clear hW hG hk hbw
  have hz_w3 := Bli.lt
  with_reducible refine (r7_RingE _ hR2 HZ.out h1L h3 HBQ.out HTQ.out HIQ.out HEQ.out).mono ?_
  rintro e w4 ⟨_, _, _, _, rfl, hB6, hT7, h8, rfl, hb⟩
  obtain ⟨ahB6, khB6, rfl, hB61, hB62, -⟩ := hB6.toI.slice
  obtain ⟨ahT7, khT7, rfl, hT71, hT72, -⟩ := hT7.toI.slice
  obtain ⟨sh8, ah8, nh8, ch8, Ah8, Nh8, Ch8, rfl⟩ := h8.shape
  replace hs := bStep hs hb
  replace Bli := Bli.mono hb
  replace h5 := h5.mono hb
  replace hP1 := rowsJ PC.kept _ _ _ hP1 hb
  replace hR2 := rowsJ RC.kept _ _ _ hR2 hb
  replace hB3 := rowsJ PC.kept _ _ _ hB3 hb
  replace hT4 := rowsJ PC.kept _ _ _ hT4 hb
  clear hb
  have q9b : (ec == ec) = true := beq_self_eq_true _
  have q9n : (ec != ec) = false := bne_self_eq_false _
  go_wp2_with fail
  refine Calls.abs ?_
  intro w5 hW
  have hG : Gr [] w4 w5 := by rw [hW]; exact (Gr.refl _ _).alloc
  have hbw : Below w.heap.size w4 w5 := hG.below0 hs.size
  have hk : KeepD w4 w5 := hG.keep True.intro
  have sz_w5 : w.heap.size ≤ w4.heap.size := hs.size
  have ni_w5 := Bli.lt
  have Blk : Bx w5 (w4.heap.size) 38 #[.bool sh8, .slice ah8 nh8 ch8, .slice Ah8 Nh8 Ch8] := by rw [hW]; exact (Bx.new0 _ _ _)
  replace hs := hs.trans hbw
  replace hP1 := rowsJ PC.kept _ _ _ hP1 (hG.below0 (Nat.le_refl _))
  replace hR2 := rowsJ RC.kept _ _ _ hR2 (hG.below0 (Nat.le_refl _))
  replace hB3 := rowsJ PC.kept _ _ _ hB3 (hG.below0 (Nat.le_refl _))
  replace hT4 := rowsJ PC.kept _ _ _ hT4 (hG.below0 (Nat.le_refl _))
  replace hB6 := rowsJ RC.kept _ _ _ hB6 (hG.below0 (Nat.le_refl _))
  replace hT7 := rowsJ RC.kept _ _ _ hT7 (hG.below0 (Nat.le_refl _))
  replace Bli := hG.bx Bli notMem0
  replace h5 := h5.keep hk
  replace h8 := h8.keep hk
  clear hW hG hk hbw
  have hz_w5 := Blk.lt
  with_reducible refine (l7_are _ hB3 hB6 HZB.out).mono ?_
  rintro e w6 ⟨rfl, hb⟩
  replace hs := bStep hs hb
  replace Bli := Bli.mono hb
  replace Blk := Blk.mono hb
  replace h5 := h5.mono hb
  replace h8 := h8.mono hb
  replace hP1 := rowsJ PC.kept _ _ _ hP1 hb
  replace hR2 := rowsJ RC.kept _ _ _ hR2 hb
  replace hB3 := rowsJ PC.kept _ _ _ hB3 hb
  replace hT4 := rowsJ PC.kept _ _ _ hT4 hb
  replace hB6 := rowsJ RC.kept _ _ _ hB6 hb
  replace hT7 := rowsJ RC.kept _ _ _ hT7 hb
  clear hb
  go_wp2_with fail
  with_reducible refine (l7_are _ hT4 hT7 HZT.out).mono ?_
  rintro e w7 ⟨rfl, hb⟩
  replace hs := bStep hs hb
  replace Bli := Bli.mono hb
  replace Blk := Blk.mono hb
  replace h5 := h5.mono hb
  replace h8 := h8.mono hb
  replace hP1 := rowsJ PC.kept _ _ _ hP1 hb
  replace hR2 := rowsJ RC.kept _ _ _ hR2 hb
  replace hB3 := rowsJ PC.kept _ _ _ hB3 hb
  replace hT4 := rowsJ PC.kept _ _ _ hT4 hb
  replace hB6 := rowsJ RC.kept _ _ _ hB6 hb
  replace hT7 := rowsJ RC.kept _ _ _ hT7 hb
  clear hb
  have B0 := Bli.a0
  have B1 := Bli.a1
  have B2 := Bli.a2
  have Li := Bli.lt
  have B3 := Blk.a0
  have B4 := Blk.a1
  have B5 := Blk.a2
  have Lk := Blk.lt
  go_wp2_with fail
  clear B0 B1 B2 B3 B4 B5 Li Lk
  with_reducible refine (l7_is _ _ _ _ h5 h8 (SzQ.fit sI)).mono ?_
  rintro e w8 ⟨rfl, hb⟩
  replace hs := bStep hs hb
  replace Bli := Bli.mono hb
  replace Blk := Blk.mono hb
  replace h5 := h5.mono hb
  replace h8 := h8.mono hb
  replace hP1 := rowsJ PC.kept _ _ _ hP1 hb
  replace hR2 := rowsJ RC.kept _ _ _ hR2 hb
  replace hB3 := rowsJ PC.kept _ _ _ hB3 hb
  replace hT4 := rowsJ PC.kept _ _ _ hT4 hb
  replace hB6 := rowsJ RC.kept _ _ _ hB6 hb
  replace hT7 := rowsJ RC.kept _ _ _ hT7 hb
  clear hb
  go_wp2_with fail
  with_reducible refine (HAW.out _).mono ?_
  rintro e w9 ⟨rfl, hb⟩
  replace hs := bStep hs hb
  replace Bli := Bli.mono hb
  replace Blk := Blk.mono hb
  replace h5 := h5.mono hb
  replace h8 := h8.mono hb
  replace hP1 := rowsJ PC.kept _ _ _ hP1 hb
  replace hR2 := rowsJ RC.kept _ _ _ hR2 hb
  replace hB3 := rowsJ PC.kept _ _ _ hB3 hb
  replace hT4 := rowsJ PC.kept _ _ _ hT4 hb
  replace hB6 := rowsJ RC.kept _ _ _ hB6 hb
  replace hT7 := rowsJ RC.kept _ _ _ hT7 hb
  clear hb
  go_wp2
  go_ret
  exact ⟨rfl, hs⟩
theorem tiny_sz {x : Int × Int} (h : tinyF x = true) (h2 : DOk x) : SzQ 1 (frF x) := by
 unfold tinyF at h
 simp only [Bool.not_eq_true', Bool.or_eq_false_iff, decide_eq_false_iff_not] at h
 exact szQ_fracQ (by omega) (by omega)
theorem rng_ok {L : List Rat} {st : Int} (h : rngE L st = 0) : 2 ≤ L.length ∧ L.length ≤ 12 ∧ allPos L = true ∧ 1 ≤ st ∧ st ≤ 16 := by
 unfold rngE at h
 by_cases a1 : L.length < 2
 ·rw [if_pos a1] at h; cases h
 ·rw [if_neg a1] at h
  by_cases a2 : 12 < L.length
  ·rw [if_pos a2] at h; cases h
  ·rw [if_neg a2] at h
   by_cases a3 : allPos L = true
   ·rw [if_pos a3] at h
    by_cases a4 : st < 1
    ·rw [if_pos a4] at h; cases h
    ·rw [if_neg a4] at h
     by_cases a5 : 16 < st
     ·rw [if_pos a5] at h; cases h
     ·exact ⟨by omega, by omega, a3, by omega, by omega⟩
   ·rw [if_neg a3] at h; cases h
theorem mapR_nth {f : Nat → Rat} {n i : Nat} (h : i < n) : nthQ ((List.range n).map f) i = f i := mapL_nth (f := f) h
theorem rng_sz {L : List Rat} {st : Int} (hz : ∀ i, i < L.length → SzQ 1 (nthQ L i)) (h5 : L.length ≤ 5 ∨ 12 < L.length) (h6 : st ≤ 6 ∨ 16 < st) :
  (∀ i, i < (rngB L st).length → SzQ 30000 (nthQ (rngB L st) i)) ∧ (∀ i, i < (rngT L st).length → SzQ 30000 (nthQ (rngT L st) i)) ∧ SzQ 100000 (rngI L st) := by
 by_cases e : rngE L st = 0
 ·obtain ⟨h2, h12, hap, h1, h16⟩ := rng_ok e
  have hp := nthQ_pos hap
  rw [show rngB L st = rgBks L st.toNat by unfold rngB; rw [if_pos e], show rngT L st = rgThs L st.toNat by unfold rngT; rw [if_pos e], show rngI L st = rgIns L st.toNat by unfold rngI; rw [if_pos e]]
  refine ⟨fun i hi => ?_, fun i hi => ?_, ?_⟩
  ·rw [rgBks_n] at hi
   unfold rgBks
   rw [mapR_nth hi]
   exact (rgBk_sz hz hp (t := i) (by omega) (by omega)).1.mono (by omega)
  ·rw [rgThs_n] at hi
   unfold rgThs
   rw [mapR_nth hi]
   exact (rgBk_sz hz hp (t := i) (by omega) (by omega)).2.mono (by omega)
  ·unfold rgIns
   exact ((rgIn_sz hz hp (t := st.toNat) (by omega) (L.length - 1) (by omega)).mul (hz 0 (by omega))).mono (by omega)
 ·rw [show rngB L st = [] by unfold rngB; rw [if_neg e], show rngT L st = [] by unfold rngT; rw [if_neg e], show rngI L st = 0 by unfold rngI; rw [if_neg e]]
  exact ⟨fun i hi => absurd hi (Nat.not_lt_zero i), fun i hi => absurd hi (Nat.not_lt_zero i), szQ_zero.mono (by decide)⟩
theorem l7_ScanRings_all (hAw : ∀ w : World, Calls Tryz.prog 8 #[] w (RetV w (.bool true))) (v : Value) (l : List (Int × Int)) (st : Int) (w : World) (hl : RowsI 2 FC w v l) (hok : ∀ x ∈ l, DOk x) :
  Calls Tryz.prog 3 #[v, .int .i64 st] w (RetV w (.bool true)) := by
 by_cases a0 : l.all tinyF = true
 ·by_cases a1 : 5 < l.length ∧ l.length ≤ 12
  ·exact l7_ScanRings_mid hAw v l st w hl a0 a1.1 a1.2
  ·by_cases a2 : 20 < l.length
   ·exact l7_ScanRings_long hAw v l st w hl a0 a2
   ·by_cases a3 : 6 < st ∧ st ≤ 16
    ·exact l7_ScanRings_smid hAw v l st w hl a0 (by omega) (by omega) a3.1 a3.2
    ·have hLl : (l.map frF).length = l.length := List.length_map _
     have hz : ∀ i, i < (l.map frF).length → SzQ 1 (nthQ (l.map frF) i) := fun i hi => by
      have e := nthQ_some hi
      rw [List.getElem?_map] at e
      obtain ⟨x, hx, ex⟩ := Option.map_eq_some_iff.1 e
      have hm := List.mem_of_getElem? hx
      rw [← ex]
      exact tiny_sz (List.all_eq_true.1 a0 x hm) (hok x hm)
     obtain ⟨z1, z2, z3⟩ := rng_sz (st := st) hz (by omega) (by omega)
     exact l7_ScanRings_ok hAw v l st w hl hok a0 (by omega) (by omega) (by omega) _ rfl hLl hz _ _ _ _ rfl rfl rfl rfl z1 z2 z3
 ·exact l7_ScanRings_dim hAw v l st w hl a0
end Go.Proofs.YtkfekkhhfpkfaaaGreat
