/-
  Law 07: ScanDepths, over awake.
-/
import Derived.Test.YtlfnapfnpkhggaaGreatPkLawH
import Derived.Test.YtlfnapfnpkhggaaGreatDepth2
set_option linter.unusedSimpArgs false
set_option linter.unusedVariables false
namespace Go.Proofs.YtlfnapfnpkhggaaGreat
open Go.RowKit Dg
set_option maxRecDepth 100000
set_option maxHeartbeats 16000000
attribute [local go_sem ↓] Go.wp_at_zero Go.wp_at_succ

abbrev AwOk : Prop := ∀ w : World, Calls Tryz.prog 12 #[] w (RetV w (.bool true))
def pv (a b c d : Int) : Value := .agg #[.int .i64 a, .int .i64 b, .int .i64 c, .int .i64 d]
theorem depQ_mid {x y z u a b : Rat} {c : Int} (sx : SzQ 100000 x) (sy : SzQ 100000 y) (sz : SzQ 100000 z) (su : SzQ 100000 u) (e : depQ x y z u = (a, b, c)) : Mid a ∧ Mid b := by
  unfold depQ at e
  by_cases h1 : x < 0
  · rw [if_pos h1] at e; cases e
    exact ⟨szQ_zero.mid, szQ_zero.mid⟩
  · rw [if_neg h1] at e
    by_cases h2 : z < 0
    · rw [if_pos h2] at e; cases e
      exact ⟨szQ_zero.mid, szQ_zero.mid⟩
    · rw [if_neg h2] at e; cases e
      have h := mul_sz (mul_sz sx sy sz su).1 (mul_sz sx sy sz su).2 szQ_half szQ_half
      exact ⟨h.1.mid, h.2.mid⟩

theorem l7_ScanDepths_bad1 (hAw : AwOk) (v : Value) (l : List (Int × Int)) (n1 d1 n2 d2 n3 d3 n4 d4 n5 d5 n6 d6 : Int) (w : World) (hl : RowsI 2 FC w v l) (af : ¬ [(n1, d1), (n2, d2)].all shortF = true) :
    Calls Tryz.prog 7 #[pv n1 d1 n2 d2, pv n3 d3 n4 d4, pv n5 d5 n6 d6, v] w (RetV w (.bool true)) := by
  unfold pv
  obtain ⟨ao, cap, rfl, hc1, hc2, hc3⟩ := hl.slice
  have hs := Below.refl w.heap.size w
  have HAW := Lib.hid hAw
  have HL := Lib.hid hl
  have HFF := Lib.hid af
  clear hAw hl af
  go_enter Tryz.func7, Tryz.ntmps7
  go_wp2_with fail
  refine Calls.abs ?_
  intro w1 hW
  have hG : Gr [] w w1 := by rw [hW]; exact (Gr.refl _ _).alloc.alloc.alloc
  have hbw : Below w.heap.size w w1 := hG.below0 hs.size
  have hk : KeepD w w1 := hG.keep True.intro
  have sz_w1 : w.heap.size ≤ w.heap.size := hs.size
  have Bltime : Bx w1 (w.heap.size) 83 #[.int .i64 n1, .int .i64 d1, .int .i64 n2, .int .i64 d2] := by rw [hW]; exact (((Bx.new0 _ _ _).alloc _).alloc _)
  have Blspeed : Bx w1 (w.heap.size + 1) 83 #[.int .i64 n3, .int .i64 d3, .int .i64 n4, .int .i64 d4] := by rw [hW]; exact ((Bx.new0 _ _ _).alloc _)
  have Bldepth : Bx w1 (w.heap.size + 1 + 1) 83 #[.int .i64 n5, .int .i64 d5, .int .i64 n6, .int .i64 d6] := by rw [hW]; exact (Bx.new0 _ _ _)
  replace hs := hs.trans hbw
  clear hW hG hk hbw
  have hz_w1 : w.heap.size + 1 + 1 < w1.heap.size := Bldepth.lt
  with_reducible refine (l7_short _ [(n1, d1), (n2, d2)] _ (rowsF2 Bltime)).mono ?_
  rintro e w2 ⟨rfl, hb⟩
  replace hs := bStep hs hb
  replace Bltime := Bltime.mono hb
  replace Blspeed := Blspeed.mono hb
  replace Bldepth := Bldepth.mono hb
  clear hb
  obtain ⟨b1, Hb1⟩ : ∃ b : Bool, b = [(n1, d1), (n2, d2)].all shortF := ⟨_, rfl⟩
  rw [← Hb1]
  replace Hb1 := Lib.hid Hb1
  have q2 : ¬ ([(n1, d1), (n2, d2)].all shortF = true) := HFF.out
  obtain rfl : b1 = false := by rw [Hb1.out]; simpa using q2
  have q2H := Lib.hid q2
  clear q2
  go_wp2_with fail
  with_reducible refine (HAW.out _).mono ?_
  rintro e w3 ⟨rfl, hb⟩
  replace hs := bStep hs hb
  replace Bltime := Bltime.mono hb
  replace Blspeed := Blspeed.mono hb
  replace Bldepth := Bldepth.mono hb
  clear hb
  go_wp2
  go_ret
  exact ⟨rfl, hs⟩

theorem l7_ScanDepths_bad2 (hAw : AwOk) (v : Value) (l : List (Int × Int)) (n1 d1 n2 d2 n3 d3 n4 d4 n5 d5 n6 d6 : Int) (w : World) (hl : RowsI 2 FC w v l) (a0 : [(n1, d1), (n2, d2)].all shortF = true) (af : ¬ [(n3, d3), (n4, d4)].all shortF = true) :
    Calls Tryz.prog 7 #[pv n1 d1 n2 d2, pv n3 d3 n4 d4, pv n5 d5 n6 d6, v] w (RetV w (.bool true)) := by
  unfold pv
  obtain ⟨ao, cap, rfl, hc1, hc2, hc3⟩ := hl.slice
  have hs := Below.refl w.heap.size w
  have HAW := Lib.hid hAw
  have HL := Lib.hid hl
  have HT0 := Lib.hid a0
  have HFF := Lib.hid af
  clear hAw hl a0 af
  go_enter Tryz.func7, Tryz.ntmps7
  go_wp2_with fail
  refine Calls.abs ?_
  intro w1 hW
  have hG : Gr [] w w1 := by rw [hW]; exact (Gr.refl _ _).alloc.alloc.alloc
  have hbw : Below w.heap.size w w1 := hG.below0 hs.size
  have hk : KeepD w w1 := hG.keep True.intro
  have sz_w1 : w.heap.size ≤ w.heap.size := hs.size
  have Bltime : Bx w1 (w.heap.size) 83 #[.int .i64 n1, .int .i64 d1, .int .i64 n2, .int .i64 d2] := by rw [hW]; exact (((Bx.new0 _ _ _).alloc _).alloc _)
  have Blspeed : Bx w1 (w.heap.size + 1) 83 #[.int .i64 n3, .int .i64 d3, .int .i64 n4, .int .i64 d4] := by rw [hW]; exact ((Bx.new0 _ _ _).alloc _)
  have Bldepth : Bx w1 (w.heap.size + 1 + 1) 83 #[.int .i64 n5, .int .i64 d5, .int .i64 n6, .int .i64 d6] := by rw [hW]; exact (Bx.new0 _ _ _)
  replace hs := hs.trans hbw
  clear hW hG hk hbw
  have hz_w1 : w.heap.size + 1 + 1 < w1.heap.size := Bldepth.lt
  with_reducible refine (l7_short _ [(n1, d1), (n2, d2)] _ (rowsF2 Bltime)).mono ?_
  rintro e w2 ⟨rfl, hb⟩
  replace hs := bStep hs hb
  replace Bltime := Bltime.mono hb
  replace Blspeed := Blspeed.mono hb
  replace Bldepth := Bldepth.mono hb
  clear hb
  obtain ⟨b1, Hb1⟩ : ∃ b : Bool, b = [(n1, d1), (n2, d2)].all shortF := ⟨_, rfl⟩
  rw [← Hb1]
  replace Hb1 := Lib.hid Hb1
  have q2 : [(n1, d1), (n2, d2)].all shortF = true := HT0.out
  obtain rfl : b1 = true := by rw [Hb1.out]; exact q2
  have q2H := Lib.hid q2
  clear q2
  go_wp2_with fail
  with_reducible refine (l7_short _ [(n3, d3), (n4, d4)] _ (rowsF2 Blspeed)).mono ?_
  rintro e w3 ⟨rfl, hb⟩
  replace hs := bStep hs hb
  replace Bltime := Bltime.mono hb
  replace Blspeed := Blspeed.mono hb
  replace Bldepth := Bldepth.mono hb
  clear hb
  obtain ⟨b3, Hb3⟩ : ∃ b : Bool, b = [(n3, d3), (n4, d4)].all shortF := ⟨_, rfl⟩
  rw [← Hb3]
  replace Hb3 := Lib.hid Hb3
  have q4 : ¬ ([(n3, d3), (n4, d4)].all shortF = true) := HFF.out
  obtain rfl : b3 = false := by rw [Hb3.out]; simpa using q4
  have q4H := Lib.hid q4
  clear q4
  go_wp2_with fail
  with_reducible refine (HAW.out _).mono ?_
  rintro e w4 ⟨rfl, hb⟩
  replace hs := bStep hs hb
  replace Bltime := Bltime.mono hb
  replace Blspeed := Blspeed.mono hb
  replace Bldepth := Bldepth.mono hb
  clear hb
  go_wp2
  go_ret
  exact ⟨rfl, hs⟩

theorem l7_ScanDepths_bad3 (hAw : AwOk) (v : Value) (l : List (Int × Int)) (n1 d1 n2 d2 n3 d3 n4 d4 n5 d5 n6 d6 : Int) (w : World) (hl : RowsI 2 FC w v l) (a0 : [(n1, d1), (n2, d2)].all shortF = true) (a1 : [(n3, d3), (n4, d4)].all shortF = true) (af : ¬ [(n5, d5), (n6, d6)].all shortF = true) :
    Calls Tryz.prog 7 #[pv n1 d1 n2 d2, pv n3 d3 n4 d4, pv n5 d5 n6 d6, v] w (RetV w (.bool true)) := by
  unfold pv
  obtain ⟨ao, cap, rfl, hc1, hc2, hc3⟩ := hl.slice
  have hs := Below.refl w.heap.size w
  have HAW := Lib.hid hAw
  have HL := Lib.hid hl
  have HT0 := Lib.hid a0
  have HT1 := Lib.hid a1
  have HFF := Lib.hid af
  clear hAw hl a0 a1 af
  go_enter Tryz.func7, Tryz.ntmps7
  go_wp2_with fail
  refine Calls.abs ?_
  intro w1 hW
  have hG : Gr [] w w1 := by rw [hW]; exact (Gr.refl _ _).alloc.alloc.alloc
  have hbw : Below w.heap.size w w1 := hG.below0 hs.size
  have hk : KeepD w w1 := hG.keep True.intro
  have sz_w1 : w.heap.size ≤ w.heap.size := hs.size
  have Bltime : Bx w1 (w.heap.size) 83 #[.int .i64 n1, .int .i64 d1, .int .i64 n2, .int .i64 d2] := by rw [hW]; exact (((Bx.new0 _ _ _).alloc _).alloc _)
  have Blspeed : Bx w1 (w.heap.size + 1) 83 #[.int .i64 n3, .int .i64 d3, .int .i64 n4, .int .i64 d4] := by rw [hW]; exact ((Bx.new0 _ _ _).alloc _)
  have Bldepth : Bx w1 (w.heap.size + 1 + 1) 83 #[.int .i64 n5, .int .i64 d5, .int .i64 n6, .int .i64 d6] := by rw [hW]; exact (Bx.new0 _ _ _)
  replace hs := hs.trans hbw
  clear hW hG hk hbw
  have hz_w1 : w.heap.size + 1 + 1 < w1.heap.size := Bldepth.lt
  with_reducible refine (l7_short _ [(n1, d1), (n2, d2)] _ (rowsF2 Bltime)).mono ?_
  rintro e w2 ⟨rfl, hb⟩
  replace hs := bStep hs hb
  replace Bltime := Bltime.mono hb
  replace Blspeed := Blspeed.mono hb
  replace Bldepth := Bldepth.mono hb
  clear hb
  obtain ⟨b1, Hb1⟩ : ∃ b : Bool, b = [(n1, d1), (n2, d2)].all shortF := ⟨_, rfl⟩
  rw [← Hb1]
  replace Hb1 := Lib.hid Hb1
  have q2 : [(n1, d1), (n2, d2)].all shortF = true := HT0.out
  obtain rfl : b1 = true := by rw [Hb1.out]; exact q2
  have q2H := Lib.hid q2
  clear q2
  go_wp2_with fail
  with_reducible refine (l7_short _ [(n3, d3), (n4, d4)] _ (rowsF2 Blspeed)).mono ?_
  rintro e w3 ⟨rfl, hb⟩
  replace hs := bStep hs hb
  replace Bltime := Bltime.mono hb
  replace Blspeed := Blspeed.mono hb
  replace Bldepth := Bldepth.mono hb
  clear hb
  obtain ⟨b3, Hb3⟩ : ∃ b : Bool, b = [(n3, d3), (n4, d4)].all shortF := ⟨_, rfl⟩
  rw [← Hb3]
  replace Hb3 := Lib.hid Hb3
  have q4 : [(n3, d3), (n4, d4)].all shortF = true := HT1.out
  obtain rfl : b3 = true := by rw [Hb3.out]; exact q4
  have q4H := Lib.hid q4
  clear q4
  go_wp2_with fail
  with_reducible refine (l7_short _ [(n5, d5), (n6, d6)] _ (rowsF2 Bldepth)).mono ?_
  rintro e w4 ⟨rfl, hb⟩
  replace hs := bStep hs hb
  replace Bltime := Bltime.mono hb
  replace Blspeed := Blspeed.mono hb
  replace Bldepth := Bldepth.mono hb
  clear hb
  obtain ⟨b5, Hb5⟩ : ∃ b : Bool, b = [(n5, d5), (n6, d6)].all shortF := ⟨_, rfl⟩
  rw [← Hb5]
  replace Hb5 := Lib.hid Hb5
  have q6 : ¬ ([(n5, d5), (n6, d6)].all shortF = true) := HFF.out
  obtain rfl : b5 = false := by rw [Hb5.out]; simpa using q6
  have q6H := Lib.hid q6
  clear q6
  go_wp2_with fail
  with_reducible refine (HAW.out _).mono ?_
  rintro e w5 ⟨rfl, hb⟩
  replace hs := bStep hs hb
  replace Bltime := Bltime.mono hb
  replace Blspeed := Blspeed.mono hb
  replace Bldepth := Bldepth.mono hb
  clear hb
  go_wp2
  go_ret
  exact ⟨rfl, hs⟩

theorem l7_ScanDepths_bad4 (hAw : AwOk) (v : Value) (l : List (Int × Int)) (n1 d1 n2 d2 n3 d3 n4 d4 n5 d5 n6 d6 : Int) (w : World) (hl : RowsI 2 FC w v l) (a0 : [(n1, d1), (n2, d2)].all shortF = true) (a1 : [(n3, d3), (n4, d4)].all shortF = true) (a2 : [(n5, d5), (n6, d6)].all shortF = true) (af : ¬ l.all shortF = true) :
    Calls Tryz.prog 7 #[pv n1 d1 n2 d2, pv n3 d3 n4 d4, pv n5 d5 n6 d6, v] w (RetV w (.bool true)) := by
  unfold pv
  obtain ⟨ao, cap, rfl, hc1, hc2, hc3⟩ := hl.slice
  have hs := Below.refl w.heap.size w
  have HAW := Lib.hid hAw
  have HL := Lib.hid hl
  have HT0 := Lib.hid a0
  have HT1 := Lib.hid a1
  have HT2 := Lib.hid a2
  have HFF := Lib.hid af
  clear hAw hl a0 a1 a2 af
  go_enter Tryz.func7, Tryz.ntmps7
  go_wp2_with fail
  refine Calls.abs ?_
  intro w1 hW
  have hG : Gr [] w w1 := by rw [hW]; exact (Gr.refl _ _).alloc.alloc.alloc
  have hbw : Below w.heap.size w w1 := hG.below0 hs.size
  have hk : KeepD w w1 := hG.keep True.intro
  have sz_w1 : w.heap.size ≤ w.heap.size := hs.size
  have Bltime : Bx w1 (w.heap.size) 83 #[.int .i64 n1, .int .i64 d1, .int .i64 n2, .int .i64 d2] := by rw [hW]; exact (((Bx.new0 _ _ _).alloc _).alloc _)
  have Blspeed : Bx w1 (w.heap.size + 1) 83 #[.int .i64 n3, .int .i64 d3, .int .i64 n4, .int .i64 d4] := by rw [hW]; exact ((Bx.new0 _ _ _).alloc _)
  have Bldepth : Bx w1 (w.heap.size + 1 + 1) 83 #[.int .i64 n5, .int .i64 d5, .int .i64 n6, .int .i64 d6] := by rw [hW]; exact (Bx.new0 _ _ _)
  replace hs := hs.trans hbw
  clear hW hG hk hbw
  have hz_w1 : w.heap.size + 1 + 1 < w1.heap.size := Bldepth.lt
  with_reducible refine (l7_short _ [(n1, d1), (n2, d2)] _ (rowsF2 Bltime)).mono ?_
  rintro e w2 ⟨rfl, hb⟩
  replace hs := bStep hs hb
  replace Bltime := Bltime.mono hb
  replace Blspeed := Blspeed.mono hb
  replace Bldepth := Bldepth.mono hb
  clear hb
  obtain ⟨b1, Hb1⟩ : ∃ b : Bool, b = [(n1, d1), (n2, d2)].all shortF := ⟨_, rfl⟩
  rw [← Hb1]
  replace Hb1 := Lib.hid Hb1
  have q2 : [(n1, d1), (n2, d2)].all shortF = true := HT0.out
  obtain rfl : b1 = true := by rw [Hb1.out]; exact q2
  have q2H := Lib.hid q2
  clear q2
  go_wp2_with fail
  with_reducible refine (l7_short _ [(n3, d3), (n4, d4)] _ (rowsF2 Blspeed)).mono ?_
  rintro e w3 ⟨rfl, hb⟩
  replace hs := bStep hs hb
  replace Bltime := Bltime.mono hb
  replace Blspeed := Blspeed.mono hb
  replace Bldepth := Bldepth.mono hb
  clear hb
  obtain ⟨b3, Hb3⟩ : ∃ b : Bool, b = [(n3, d3), (n4, d4)].all shortF := ⟨_, rfl⟩
  rw [← Hb3]
  replace Hb3 := Lib.hid Hb3
  have q4 : [(n3, d3), (n4, d4)].all shortF = true := HT1.out
  obtain rfl : b3 = true := by rw [Hb3.out]; exact q4
  have q4H := Lib.hid q4
  clear q4
  go_wp2_with fail
  with_reducible refine (l7_short _ [(n5, d5), (n6, d6)] _ (rowsF2 Bldepth)).mono ?_
  rintro e w4 ⟨rfl, hb⟩
  replace hs := bStep hs hb
  replace Bltime := Bltime.mono hb
  replace Blspeed := Blspeed.mono hb
  replace Bldepth := Bldepth.mono hb
  clear hb
  obtain ⟨b5, Hb5⟩ : ∃ b : Bool, b = [(n5, d5), (n6, d6)].all shortF := ⟨_, rfl⟩
  rw [← Hb5]
  replace Hb5 := Lib.hid Hb5
  have q6 : [(n5, d5), (n6, d6)].all shortF = true := HT2.out
  obtain rfl : b5 = true := by rw [Hb5.out]; exact q6
  have q6H := Lib.hid q6
  clear q6
  go_wp2_with fail
  with_reducible refine (l7_short _ l _ (HL.out.mono FC.kept hs)).mono ?_
  rintro e w5 ⟨rfl, hb⟩
  replace hs := bStep hs hb
  replace Bltime := Bltime.mono hb
  replace Blspeed := Blspeed.mono hb
  replace Bldepth := Bldepth.mono hb
  clear hb
  obtain ⟨b7, Hb7⟩ : ∃ b : Bool, b = l.all shortF := ⟨_, rfl⟩
  rw [← Hb7]
  replace Hb7 := Lib.hid Hb7
  have q8 : ¬ (l.all shortF = true) := HFF.out
  obtain rfl : b7 = false := by rw [Hb7.out]; simpa using q8
  have q8H := Lib.hid q8
  clear q8
  go_wp2_with fail
  with_reducible refine (HAW.out _).mono ?_
  rintro e w6 ⟨rfl, hb⟩
  replace hs := bStep hs hb
  replace Bltime := Bltime.mono hb
  replace Blspeed := Blspeed.mono hb
  replace Bldepth := Bldepth.mono hb
  clear hb
  go_wp2
  go_ret
  exact ⟨rfl, hs⟩

theorem l7_ScanDepths_long (hAw : AwOk) (v : Value) (l : List (Int × Int)) (n1 d1 n2 d2 n3 d3 n4 d4 n5 d5 n6 d6 : Int) (w : World) (hl : RowsI 2 FC w v l) (a0 : [(n1, d1), (n2, d2)].all shortF = true) (a1 : [(n3, d3), (n4, d4)].all shortF = true) (a2 : [(n5, d5), (n6, d6)].all shortF = true) (a3 : l.all shortF = true) (hlong : 20 < l.length) :
    Calls Tryz.prog 7 #[pv n1 d1 n2 d2, pv n3 d3 n4 d4, pv n5 d5 n6 d6, v] w (RetV w (.bool true)) := by
  unfold pv
  obtain ⟨ao, cap, rfl, hc1, hc2, hc3⟩ := hl.slice
  have hs := Below.refl w.heap.size w
  have HAW := Lib.hid hAw
  have HL := Lib.hid hl
  have HT0 := Lib.hid a0
  have HT1 := Lib.hid a1
  have HT2 := Lib.hid a2
  have HT3 := Lib.hid a3
  clear hAw hl a0 a1 a2 a3
  go_enter Tryz.func7, Tryz.ntmps7
  go_wp2_with fail
  refine Calls.abs ?_
  intro w1 hW
  have hG : Gr [] w w1 := by rw [hW]; exact (Gr.refl _ _).alloc.alloc.alloc
  have hbw : Below w.heap.size w w1 := hG.below0 hs.size
  have hk : KeepD w w1 := hG.keep True.intro
  have sz_w1 : w.heap.size ≤ w.heap.size := hs.size
  have Bltime : Bx w1 (w.heap.size) 83 #[.int .i64 n1, .int .i64 d1, .int .i64 n2, .int .i64 d2] := by rw [hW]; exact (((Bx.new0 _ _ _).alloc _).alloc _)
  have Blspeed : Bx w1 (w.heap.size + 1) 83 #[.int .i64 n3, .int .i64 d3, .int .i64 n4, .int .i64 d4] := by rw [hW]; exact ((Bx.new0 _ _ _).alloc _)
  have Bldepth : Bx w1 (w.heap.size + 1 + 1) 83 #[.int .i64 n5, .int .i64 d5, .int .i64 n6, .int .i64 d6] := by rw [hW]; exact (Bx.new0 _ _ _)
  replace hs := hs.trans hbw
  clear hW hG hk hbw
  have hz_w1 : w.heap.size + 1 + 1 < w1.heap.size := Bldepth.lt
  with_reducible refine (l7_short _ [(n1, d1), (n2, d2)] _ (rowsF2 Bltime)).mono ?_
  rintro e w2 ⟨rfl, hb⟩
  replace hs := bStep hs hb
  replace Bltime := Bltime.mono hb
  replace Blspeed := Blspeed.mono hb
  replace Bldepth := Bldepth.mono hb
  clear hb
  obtain ⟨b1, Hb1⟩ : ∃ b : Bool, b = [(n1, d1), (n2, d2)].all shortF := ⟨_, rfl⟩
  rw [← Hb1]
  replace Hb1 := Lib.hid Hb1
  have q2 : [(n1, d1), (n2, d2)].all shortF = true := HT0.out
  obtain rfl : b1 = true := by rw [Hb1.out]; exact q2
  have q2H := Lib.hid q2
  clear q2
  go_wp2_with fail
  with_reducible refine (l7_short _ [(n3, d3), (n4, d4)] _ (rowsF2 Blspeed)).mono ?_
  rintro e w3 ⟨rfl, hb⟩
  replace hs := bStep hs hb
  replace Bltime := Bltime.mono hb
  replace Blspeed := Blspeed.mono hb
  replace Bldepth := Bldepth.mono hb
  clear hb
  obtain ⟨b3, Hb3⟩ : ∃ b : Bool, b = [(n3, d3), (n4, d4)].all shortF := ⟨_, rfl⟩
  rw [← Hb3]
  replace Hb3 := Lib.hid Hb3
  have q4 : [(n3, d3), (n4, d4)].all shortF = true := HT1.out
  obtain rfl : b3 = true := by rw [Hb3.out]; exact q4
  have q4H := Lib.hid q4
  clear q4
  go_wp2_with fail
  with_reducible refine (l7_short _ [(n5, d5), (n6, d6)] _ (rowsF2 Bldepth)).mono ?_
  rintro e w4 ⟨rfl, hb⟩
  replace hs := bStep hs hb
  replace Bltime := Bltime.mono hb
  replace Blspeed := Blspeed.mono hb
  replace Bldepth := Bldepth.mono hb
  clear hb
  obtain ⟨b5, Hb5⟩ : ∃ b : Bool, b = [(n5, d5), (n6, d6)].all shortF := ⟨_, rfl⟩
  rw [← Hb5]
  replace Hb5 := Lib.hid Hb5
  have q6 : [(n5, d5), (n6, d6)].all shortF = true := HT2.out
  obtain rfl : b5 = true := by rw [Hb5.out]; exact q6
  have q6H := Lib.hid q6
  clear q6
  go_wp2_with fail
  with_reducible refine (l7_short _ l _ (HL.out.mono FC.kept hs)).mono ?_
  rintro e w5 ⟨rfl, hb⟩
  replace hs := bStep hs hb
  replace Bltime := Bltime.mono hb
  replace Blspeed := Blspeed.mono hb
  replace Bldepth := Bldepth.mono hb
  clear hb
  obtain ⟨b7, Hb7⟩ : ∃ b : Bool, b = l.all shortF := ⟨_, rfl⟩
  rw [← Hb7]
  replace Hb7 := Lib.hid Hb7
  have q8 : l.all shortF = true := HT3.out
  obtain rfl : b7 = true := by rw [Hb7.out]; exact q8
  have q8H := Lib.hid q8
  clear q8
  have q9 : 20 < l.length := by omega
  have q9d : ((20 : Int) < (l.length : Int)) = True := eq_true (by omega)
  go_wp2_with fail
  with_reducible refine (HAW.out _).mono ?_
  rintro e w6 ⟨rfl, hb⟩
  replace hs := bStep hs hb
  replace Bltime := Bltime.mono hb
  replace Blspeed := Blspeed.mono hb
  replace Bldepth := Bldepth.mono hb
  clear hb
  go_wp2
  go_ret
  exact ⟨rfl, hs⟩

theorem l7_ScanDepths_ok (hAw : AwOk) (v : Value) (l : List (Int × Int)) (n1 d1 n2 d2 n3 d3 n4 d4 n5 d5 n6 d6 : Int) (w : World) (hl : RowsI 2 FC w v l) (hok : ∀ x ∈ l, DOk x) (o1 : DOk (n1, d1)) (o2 : DOk (n2, d2)) (o3 : DOk (n3, d3)) (o4 : DOk (n4, d4)) (o5 : DOk (n5, d5)) (o6 : DOk (n6, d6)) (a0 : [(n1, d1), (n2, d2)].all shortF = true) (a1 : [(n3, d3), (n4, d4)].all shortF = true) (a2 : [(n5, d5), (n6, d6)].all shortF = true) (a3 : l.all shortF = true) (h20 : l.length ≤ 20)
    (L : List Rat) (hLQ : L = l.map frF) (lo1 hi1 lo3 hi3 lo5 hi5 : Rat) (hlo1 : spLo n1 d1 n2 d2 = lo1) (hhi1 : spHi n1 d1 n2 d2 = hi1) (hlo3 : spLo n3 d3 n4 d4 = lo3) (hhi3 : spHi n3 d3 n4 d4 = hi3) (hlo5 : spLo n5 d5 n6 d6 = lo5) (hhi5 : spHi n5 d5 n6 d6 = hi5) (da db : Rat) (dc pa pb pc : Int) (hdp : depQ lo1 hi1 lo3 hi3 = (da, db, dc)) (hpl : plAll L lo5 hi5 = (pa, pb, pc)) :
    Calls Tryz.prog 7 #[pv n1 d1 n2 d2, pv n3 d3 n4 d4, pv n5 d5 n6 d6, v] w (RetV w (.bool true)) := by
  unfold pv
  obtain ⟨ao, cap, rfl, hc1, hc2, hc3⟩ := hl.slice
  have hs := Below.refl w.heap.size w
  have z1 : ∀ i, i < L.length → SzQ 1 (nthQ L i) := by rw [hLQ]; exact list_sz a3 hok
  have HZ5 := Lib.hid (show ∀ i, i < L.length → SzQ 50000 (nthQ L i) from fun i hi => (z1 i hi).mono (by omega))
  have HZ1 := Lib.hid z1
  have slo1 : SzQ 1 lo1 := hlo1 ▸ (sp_sz a0 o1 o2).1
  have shi1 : SzQ 1 hi1 := hhi1 ▸ (sp_sz a0 o1 o2).2
  have HS1 := Lib.hid a0
  have HLO1 := Lib.hid hlo1
  have HHI1 := Lib.hid hhi1
  have slo3 : SzQ 1 lo3 := hlo3 ▸ (sp_sz a1 o3 o4).1
  have shi3 : SzQ 1 hi3 := hhi3 ▸ (sp_sz a1 o3 o4).2
  have HS3 := Lib.hid a1
  have HLO3 := Lib.hid hlo3
  have HHI3 := Lib.hid hhi3
  have slo5 : SzQ 1 lo5 := hlo5 ▸ (sp_sz a2 o5 o6).1
  have shi5 : SzQ 1 hi5 := hhi5 ▸ (sp_sz a2 o5 o6).2
  have HS5 := Lib.hid a2
  have HLO5 := Lib.hid hlo5
  have HHI5 := Lib.hid hhi5
  have HO1 := Lib.hid o1
  have HO2 := Lib.hid o2
  have HO3 := Lib.hid o3
  have HO4 := Lib.hid o4
  have HO5 := Lib.hid o5
  have HO6 := Lib.hid o6
  obtain ⟨sda, sdb⟩ := depQ_mid (slo1.mono (by omega)) (shi1.mono (by omega)) (slo3.mono (by omega)) (shi3.mono (by omega)) hdp
  have HDP := Lib.hid hdp
  have HPL := Lib.hid hpl
  have HSL := Lib.hid a3
  have HLQ := Lib.hid hLQ
  have HAW := Lib.hid hAw
  have HL := Lib.hid hl
  have HOK := Lib.hid hok
  clear z1 a0 a1 a2 a3 hdp hpl hLQ hAw hl hok hlo1 hhi1 hlo3 hhi3 hlo5 hhi5 o1 o2 o3 o4 o5 o6
  go_enter Tryz.func7, Tryz.ntmps7
  go_wp2_with fail
  refine Calls.abs ?_
  intro w1 hW
  have hG : Gr [] w w1 := by rw [hW]; exact (Gr.refl _ _).alloc.alloc.alloc
  have hbw : Below w.heap.size w w1 := hG.below0 hs.size
  have hk : KeepD w w1 := hG.keep True.intro
  have sz_w1 : w.heap.size ≤ w.heap.size := hs.size
  have Bltime : Bx w1 (w.heap.size) 83 #[.int .i64 n1, .int .i64 d1, .int .i64 n2, .int .i64 d2] := by rw [hW]; exact (((Bx.new0 _ _ _).alloc _).alloc _)
  have Blspeed : Bx w1 (w.heap.size + 1) 83 #[.int .i64 n3, .int .i64 d3, .int .i64 n4, .int .i64 d4] := by rw [hW]; exact ((Bx.new0 _ _ _).alloc _)
  have Bldepth : Bx w1 (w.heap.size + 1 + 1) 83 #[.int .i64 n5, .int .i64 d5, .int .i64 n6, .int .i64 d6] := by rw [hW]; exact (Bx.new0 _ _ _)
  replace hs := hs.trans hbw
  clear hW hG hk hbw
  have hz_w1 : w.heap.size + 1 + 1 < w1.heap.size := Bldepth.lt
  with_reducible refine (l7_short _ [(n1, d1), (n2, d2)] _ (rowsF2 Bltime)).mono ?_
  rintro e w2 ⟨rfl, hb⟩
  replace hs := bStep hs hb
  replace Bltime := Bltime.mono hb
  replace Blspeed := Blspeed.mono hb
  replace Bldepth := Bldepth.mono hb
  clear hb
  obtain ⟨b1, Hb1⟩ : ∃ b : Bool, b = [(n1, d1), (n2, d2)].all shortF := ⟨_, rfl⟩
  rw [← Hb1]
  replace Hb1 := Lib.hid Hb1
  have q2 : [(n1, d1), (n2, d2)].all shortF = true := HS1.out
  obtain rfl : b1 = true := by rw [Hb1.out]; exact q2
  have q2H := Lib.hid q2
  clear q2
  go_wp2_with fail
  with_reducible refine (l7_short _ [(n3, d3), (n4, d4)] _ (rowsF2 Blspeed)).mono ?_
  rintro e w3 ⟨rfl, hb⟩
  replace hs := bStep hs hb
  replace Bltime := Bltime.mono hb
  replace Blspeed := Blspeed.mono hb
  replace Bldepth := Bldepth.mono hb
  clear hb
  obtain ⟨b3, Hb3⟩ : ∃ b : Bool, b = [(n3, d3), (n4, d4)].all shortF := ⟨_, rfl⟩
  rw [← Hb3]
  replace Hb3 := Lib.hid Hb3
  have q4 : [(n3, d3), (n4, d4)].all shortF = true := HS3.out
  obtain rfl : b3 = true := by rw [Hb3.out]; exact q4
  have q4H := Lib.hid q4
  clear q4
  go_wp2_with fail
  with_reducible refine (l7_short _ [(n5, d5), (n6, d6)] _ (rowsF2 Bldepth)).mono ?_
  rintro e w4 ⟨rfl, hb⟩
  replace hs := bStep hs hb
  replace Bltime := Bltime.mono hb
  replace Blspeed := Blspeed.mono hb
  replace Bldepth := Bldepth.mono hb
  clear hb
  obtain ⟨b5, Hb5⟩ : ∃ b : Bool, b = [(n5, d5), (n6, d6)].all shortF := ⟨_, rfl⟩
  rw [← Hb5]
  replace Hb5 := Lib.hid Hb5
  have q6 : [(n5, d5), (n6, d6)].all shortF = true := HS5.out
  obtain rfl : b5 = true := by rw [Hb5.out]; exact q6
  have q6H := Lib.hid q6
  clear q6
  go_wp2_with fail
  with_reducible refine (l7_short _ l _ (HL.out.mono FC.kept hs)).mono ?_
  rintro e w5 ⟨rfl, hb⟩
  replace hs := bStep hs hb
  replace Bltime := Bltime.mono hb
  replace Blspeed := Blspeed.mono hb
  replace Bldepth := Bldepth.mono hb
  clear hb
  obtain ⟨b7, Hb7⟩ : ∃ b : Bool, b = l.all shortF := ⟨_, rfl⟩
  rw [← Hb7]
  replace Hb7 := Lib.hid Hb7
  have q8 : l.all shortF = true := HSL.out
  obtain rfl : b7 = true := by rw [Hb7.out]; exact q8
  have q8H := Lib.hid q8
  clear q8
  have q9 : ¬ (20 < l.length) := by omega
  have q9d : ((20 : Int) < (l.length : Int)) = False := eq_false (by omega)
  have ctime_0 : w5.cell? ⟨w.heap.size, 0, none⟩ = some (.int .i64 n1) := Bltime.at 0 rfl
  have ctime_1 : w5.cell? ⟨w.heap.size, 1, none⟩ = some (.int .i64 d1) := Bltime.at 1 rfl
  have ctime_2 : w5.cell? ⟨w.heap.size, 2, none⟩ = some (.int .i64 n2) := Bltime.at 2 rfl
  have ctime_3 : w5.cell? ⟨w.heap.size, 3, none⟩ = some (.int .i64 d2) := Bltime.at 3 rfl
  have Ltime : w.heap.size < w5.heap.size := Bltime.lt
  go_wp2_with fail
  clear ctime_0 ctime_1 ctime_2 ctime_3 Ltime
  with_reducible refine (l7_span_ _ HS1.out HO1.out HO2.out HLO1.out HHI1.out).mono ?_
  rintro e w6 ⟨_, _, rfl, h10, h11, hb⟩
  obtain ⟨sh10a, ah10a, nh10a, ch10a, Ah10a, Nh10a, Ch10a, sh10b, ah10b, nh10b, ch10b, Ah10b, Nh10b, Ch10b, rfl, h10a, h10b⟩ := h10.shape
  obtain ⟨sh11a, ah11a, nh11a, ch11a, Ah11a, Nh11a, Ch11a, sh11b, ah11b, nh11b, ch11b, Ah11b, Nh11b, Ch11b, rfl, h11a, h11b⟩ := h11.shape
  replace hs := bStep hs hb
  replace Bltime := Bltime.mono hb
  replace Blspeed := Blspeed.mono hb
  replace Bldepth := Bldepth.mono hb
  clear hb
  have cspeed_0 : w6.cell? ⟨w.heap.size + 1, 0, none⟩ = some (.int .i64 n3) := Blspeed.at 0 rfl
  have cspeed_1 : w6.cell? ⟨w.heap.size + 1, 1, none⟩ = some (.int .i64 d3) := Blspeed.at 1 rfl
  have cspeed_2 : w6.cell? ⟨w.heap.size + 1, 2, none⟩ = some (.int .i64 n4) := Blspeed.at 2 rfl
  have cspeed_3 : w6.cell? ⟨w.heap.size + 1, 3, none⟩ = some (.int .i64 d4) := Blspeed.at 3 rfl
  have Lspeed : w.heap.size + 1 < w6.heap.size := Blspeed.lt
  have Lspeed_0 : w.heap.size < w6.heap.size := by omega
  go_wp2_with fail
  clear cspeed_0 cspeed_1 cspeed_2 cspeed_3 Lspeed Lspeed_0
  refine Calls.abs ?_
  intro w7 hW
  have hG : Gr [] w6 w7 := by rw [hW]; exact (Gr.refl _ _).alloc.alloc
  have hbw : Below w.heap.size w6 w7 := hG.below0 hs.size
  have hk : KeepD w6 w7 := hG.keep True.intro
  have sz_w7 : w.heap.size ≤ w6.heap.size := hs.size
  have ntime_w7 : w.heap.size < w6.heap.size := Bltime.lt
  have nspeed_w7 : w.heap.size + 1 < w6.heap.size := Blspeed.lt
  have ndepth_w7 : w.heap.size + 1 + 1 < w6.heap.size := Bldepth.lt
  have Bla : Bx w7 (w6.heap.size) 86 #[.bool sh10a, .slice ah10a nh10a ch10a, .slice Ah10a Nh10a Ch10a, .bool sh10b, .slice ah10b nh10b ch10b, .slice Ah10b Nh10b Ch10b] := by rw [hW]; exact ((Bx.new0 _ _ _).alloc _)
  have Blb : Bx w7 (w6.heap.size + 1) 88 #[.bool sh11a, .slice ah11a nh11a ch11a, .slice Ah11a Nh11a Ch11a, .bool sh11b, .slice ah11b nh11b ch11b, .slice Ah11b Nh11b Ch11b] := by rw [hW]; exact (Bx.new0 _ _ _)
  replace hs := hs.trans hbw
  replace Bltime := hG.bx Bltime notMem0
  replace Blspeed := hG.bx Blspeed notMem0
  replace Bldepth := hG.bx Bldepth notMem0
  replace h10a := h10a.keep hk
  replace h10b := h10b.keep hk
  replace h11a := h11a.keep hk
  replace h11b := h11b.keep hk
  clear hW hG hk hbw
  have hz_w7 : w6.heap.size + 1 < w7.heap.size := Blb.lt
  with_reducible refine (l7_span_ _ HS3.out HO3.out HO4.out HLO3.out HHI3.out).mono ?_
  rintro e w8 ⟨_, _, rfl, h12, h13, hb⟩
  obtain ⟨sh12a, ah12a, nh12a, ch12a, Ah12a, Nh12a, Ch12a, sh12b, ah12b, nh12b, ch12b, Ah12b, Nh12b, Ch12b, rfl, h12a, h12b⟩ := h12.shape
  obtain ⟨sh13a, ah13a, nh13a, ch13a, Ah13a, Nh13a, Ch13a, sh13b, ah13b, nh13b, ch13b, Ah13b, Nh13b, Ch13b, rfl, h13a, h13b⟩ := h13.shape
  replace hs := bStep hs hb
  replace Bltime := Bltime.mono hb
  replace Blspeed := Blspeed.mono hb
  replace Bldepth := Bldepth.mono hb
  replace Bla := Bla.mono hb
  replace Blb := Blb.mono hb
  replace h10a := h10a.mono hb
  replace h10b := h10b.mono hb
  replace h11a := h11a.mono hb
  replace h11b := h11b.mono hb
  clear hb
  have ca_0 : w8.cell? ⟨w6.heap.size, 0, none⟩ = some (.bool sh10a) := Bla.at 0 rfl
  have ca_1 : w8.cell? ⟨w6.heap.size, 1, none⟩ = some (.slice ah10a nh10a ch10a) := Bla.at 1 rfl
  have ca_2 : w8.cell? ⟨w6.heap.size, 2, none⟩ = some (.slice Ah10a Nh10a Ch10a) := Bla.at 2 rfl
  have ca_3 : w8.cell? ⟨w6.heap.size, 3, none⟩ = some (.bool sh10b) := Bla.at 3 rfl
  have ca_4 : w8.cell? ⟨w6.heap.size, 4, none⟩ = some (.slice ah10b nh10b ch10b) := Bla.at 4 rfl
  have ca_5 : w8.cell? ⟨w6.heap.size, 5, none⟩ = some (.slice Ah10b Nh10b Ch10b) := Bla.at 5 rfl
  have La : w6.heap.size < w8.heap.size := Bla.lt
  go_wp2_with fail
  clear ca_0 ca_1 ca_2 ca_3 ca_4 ca_5 La
  refine Calls.abs ?_
  intro w9 hW
  have hG : Gr [] w8 w9 := by rw [hW]; exact (Gr.refl _ _).alloc.alloc
  have hbw : Below w.heap.size w8 w9 := hG.below0 hs.size
  have hk : KeepD w8 w9 := hG.keep True.intro
  have sz_w9 : w.heap.size ≤ w8.heap.size := hs.size
  have ntime_w9 : w.heap.size < w8.heap.size := Bltime.lt
  have nspeed_w9 : w.heap.size + 1 < w8.heap.size := Blspeed.lt
  have ndepth_w9 : w.heap.size + 1 + 1 < w8.heap.size := Bldepth.lt
  have na_w9 : w6.heap.size < w8.heap.size := Bla.lt
  have nb_w9 : w6.heap.size + 1 < w8.heap.size := Blb.lt
  have Blc : Bx w9 (w8.heap.size) 86 #[.bool sh12a, .slice ah12a nh12a ch12a, .slice Ah12a Nh12a Ch12a, .bool sh12b, .slice ah12b nh12b ch12b, .slice Ah12b Nh12b Ch12b] := by rw [hW]; exact ((Bx.new0 _ _ _).alloc _)
  have Bld : Bx w9 (w8.heap.size + 1) 88 #[.bool sh13a, .slice ah13a nh13a ch13a, .slice Ah13a Nh13a Ch13a, .bool sh13b, .slice ah13b nh13b ch13b, .slice Ah13b Nh13b Ch13b] := by rw [hW]; exact (Bx.new0 _ _ _)
  replace hs := hs.trans hbw
  replace Bltime := hG.bx Bltime notMem0
  replace Blspeed := hG.bx Blspeed notMem0
  replace Bldepth := hG.bx Bldepth notMem0
  replace Bla := hG.bx Bla notMem0
  replace Blb := hG.bx Blb notMem0
  replace h10a := h10a.keep hk
  replace h10b := h10b.keep hk
  replace h11a := h11a.keep hk
  replace h11b := h11b.keep hk
  replace h12a := h12a.keep hk
  replace h12b := h12b.keep hk
  replace h13a := h13a.keep hk
  replace h13b := h13b.keep hk
  clear hW hG hk hbw
  have hz_w9 : w8.heap.size + 1 < w9.heap.size := Bld.lt
  with_reducible refine (sc_Depth_all (PV2.mk h10a h10b) (PV2.mk h12a h12b) (SzQ.mono slo1 (by omega)) (SzQ.mono shi1 (by omega)) (SzQ.mono slo3 (by omega)) (SzQ.mono shi3 (by omega)) HDP.out).mono ?_
  rintro e w10 ⟨_, _, rfl, h14, rfl, hb⟩
  obtain ⟨sh14a, ah14a, nh14a, ch14a, Ah14a, Nh14a, Ch14a, sh14b, ah14b, nh14b, ch14b, Ah14b, Nh14b, Ch14b, rfl, h14a, h14b⟩ := h14.shape
  replace hs := bStep hs hb
  replace Bltime := Bltime.mono hb
  replace Blspeed := Blspeed.mono hb
  replace Bldepth := Bldepth.mono hb
  replace Bla := Bla.mono hb
  replace Blb := Blb.mono hb
  replace Blc := Blc.mono hb
  replace Bld := Bld.mono hb
  replace h10a := h10a.mono hb
  replace h10b := h10b.mono hb
  replace h11a := h11a.mono hb
  replace h11b := h11b.mono hb
  replace h12a := h12a.mono hb
  replace h12b := h12b.mono hb
  replace h13a := h13a.mono hb
  replace h13b := h13b.mono hb
  clear hb
  have cb_0 : w10.cell? ⟨w6.heap.size + 1, 0, none⟩ = some (.bool sh11a) := Blb.at 0 rfl
  have cb_1 : w10.cell? ⟨w6.heap.size + 1, 1, none⟩ = some (.slice ah11a nh11a ch11a) := Blb.at 1 rfl
  have cb_2 : w10.cell? ⟨w6.heap.size + 1, 2, none⟩ = some (.slice Ah11a Nh11a Ch11a) := Blb.at 2 rfl
  have cb_3 : w10.cell? ⟨w6.heap.size + 1, 3, none⟩ = some (.bool sh11b) := Blb.at 3 rfl
  have cb_4 : w10.cell? ⟨w6.heap.size + 1, 4, none⟩ = some (.slice ah11b nh11b ch11b) := Blb.at 4 rfl
  have cb_5 : w10.cell? ⟨w6.heap.size + 1, 5, none⟩ = some (.slice Ah11b Nh11b Ch11b) := Blb.at 5 rfl
  have Lb : w6.heap.size + 1 < w10.heap.size := Blb.lt
  have cd_0 : w10.cell? ⟨w8.heap.size + 1, 0, none⟩ = some (.bool sh13a) := Bld.at 0 rfl
  have cd_1 : w10.cell? ⟨w8.heap.size + 1, 1, none⟩ = some (.slice ah13a nh13a ch13a) := Bld.at 1 rfl
  have cd_2 : w10.cell? ⟨w8.heap.size + 1, 2, none⟩ = some (.slice Ah13a Nh13a Ch13a) := Bld.at 2 rfl
  have cd_3 : w10.cell? ⟨w8.heap.size + 1, 3, none⟩ = some (.bool sh13b) := Bld.at 3 rfl
  have cd_4 : w10.cell? ⟨w8.heap.size + 1, 4, none⟩ = some (.slice ah13b nh13b ch13b) := Bld.at 4 rfl
  have cd_5 : w10.cell? ⟨w8.heap.size + 1, 5, none⟩ = some (.slice Ah13b Nh13b Ch13b) := Bld.at 5 rfl
  have Ld : w8.heap.size + 1 < w10.heap.size := Bld.lt
  have Lb_0 : w6.heap.size < w10.heap.size := by omega
  have Ld_0 : w8.heap.size < w10.heap.size := by omega
  go_wp2_with fail
  clear cb_0 cb_1 cb_2 cb_3 cb_4 cb_5 cd_0 cd_1 cd_2 cd_3 cd_4 cd_5 Lb Ld Lb_0 Ld_0
  refine Calls.abs ?_
  intro w11 hW
  have hG : Gr [] w10 w11 := by rw [hW]; exact (Gr.refl _ _).alloc
  have hbw : Below w.heap.size w10 w11 := hG.below0 hs.size
  have hk : KeepD w10 w11 := hG.keep True.intro
  have sz_w11 : w.heap.size ≤ w10.heap.size := hs.size
  have ntime_w11 : w.heap.size < w10.heap.size := Bltime.lt
  have nspeed_w11 : w.heap.size + 1 < w10.heap.size := Blspeed.lt
  have ndepth_w11 : w.heap.size + 1 + 1 < w10.heap.size := Bldepth.lt
  have na_w11 : w6.heap.size < w10.heap.size := Bla.lt
  have nb_w11 : w6.heap.size + 1 < w10.heap.size := Blb.lt
  have nc_w11 : w8.heap.size < w10.heap.size := Blc.lt
  have nd_w11 : w8.heap.size + 1 < w10.heap.size := Bld.lt
  have Blx : Bx w11 (w10.heap.size) 86 #[.bool sh14a, .slice ah14a nh14a ch14a, .slice Ah14a Nh14a Ch14a, .bool sh14b, .slice ah14b nh14b ch14b, .slice Ah14b Nh14b Ch14b] := by rw [hW]; exact (Bx.new0 _ _ _)
  replace hs := hs.trans hbw
  replace Bltime := hG.bx Bltime notMem0
  replace Blspeed := hG.bx Blspeed notMem0
  replace Bldepth := hG.bx Bldepth notMem0
  replace Bla := hG.bx Bla notMem0
  replace Blb := hG.bx Blb notMem0
  replace Blc := hG.bx Blc notMem0
  replace Bld := hG.bx Bld notMem0
  replace h10a := h10a.keep hk
  replace h10b := h10b.keep hk
  replace h11a := h11a.keep hk
  replace h11b := h11b.keep hk
  replace h12a := h12a.keep hk
  replace h12b := h12b.keep hk
  replace h13a := h13a.keep hk
  replace h13b := h13b.keep hk
  replace h14a := h14a.keep hk
  replace h14b := h14b.keep hk
  clear hW hG hk hbw
  have hz_w11 : w10.heap.size < w11.heap.size := Blx.lt
  with_reducible refine (r7_Depth_all (RV2.mk h11a h11b) (RV2.mk h13a h13b) (SzQ.mono slo1 (by omega)) (SzQ.mono shi1 (by omega)) (SzQ.mono slo3 (by omega)) (SzQ.mono shi3 (by omega)) HDP.out).mono ?_
  rintro e w12 ⟨_, _, rfl, h15, rfl, hb⟩
  obtain ⟨sh15a, ah15a, nh15a, ch15a, Ah15a, Nh15a, Ch15a, sh15b, ah15b, nh15b, ch15b, Ah15b, Nh15b, Ch15b, rfl, h15a, h15b⟩ := h15.shape
  replace hs := bStep hs hb
  replace Bltime := Bltime.mono hb
  replace Blspeed := Blspeed.mono hb
  replace Bldepth := Bldepth.mono hb
  replace Bla := Bla.mono hb
  replace Blb := Blb.mono hb
  replace Blc := Blc.mono hb
  replace Bld := Bld.mono hb
  replace Blx := Blx.mono hb
  replace h10a := h10a.mono hb
  replace h10b := h10b.mono hb
  replace h11a := h11a.mono hb
  replace h11b := h11b.mono hb
  replace h12a := h12a.mono hb
  replace h12b := h12b.mono hb
  replace h13a := h13a.mono hb
  replace h13b := h13b.mono hb
  replace h14a := h14a.mono hb
  replace h14b := h14b.mono hb
  clear hb
  have q16b : (dc == dc) = true := beq_self_eq_true _
  have q16n : (dc != dc) = false := bne_self_eq_false _
  have cx_0 : w12.cell? ⟨w10.heap.size, 0, none⟩ = some (.bool sh14a) := Blx.at 0 rfl
  have cx_1 : w12.cell? ⟨w10.heap.size, 1, none⟩ = some (.slice ah14a nh14a ch14a) := Blx.at 1 rfl
  have cx_2 : w12.cell? ⟨w10.heap.size, 2, none⟩ = some (.slice Ah14a Nh14a Ch14a) := Blx.at 2 rfl
  have cx_3 : w12.cell? ⟨w10.heap.size, 3, none⟩ = some (.bool sh14b) := Blx.at 3 rfl
  have cx_4 : w12.cell? ⟨w10.heap.size, 4, none⟩ = some (.slice ah14b nh14b ch14b) := Blx.at 4 rfl
  have cx_5 : w12.cell? ⟨w10.heap.size, 5, none⟩ = some (.slice Ah14b Nh14b Ch14b) := Blx.at 5 rfl
  have Lx : w10.heap.size < w12.heap.size := Blx.lt
  go_wp2_with fail
  clear cx_0 cx_1 cx_2 cx_3 cx_4 cx_5 Lx
  refine Calls.abs ?_
  intro w13 hW
  have hG : Gr [] w12 w13 := by rw [hW]; exact (Gr.refl _ _).alloc
  have hbw : Below w.heap.size w12 w13 := hG.below0 hs.size
  have hk : KeepD w12 w13 := hG.keep True.intro
  have sz_w13 : w.heap.size ≤ w12.heap.size := hs.size
  have ntime_w13 : w.heap.size < w12.heap.size := Bltime.lt
  have nspeed_w13 : w.heap.size + 1 < w12.heap.size := Blspeed.lt
  have ndepth_w13 : w.heap.size + 1 + 1 < w12.heap.size := Bldepth.lt
  have na_w13 : w6.heap.size < w12.heap.size := Bla.lt
  have nb_w13 : w6.heap.size + 1 < w12.heap.size := Blb.lt
  have nc_w13 : w8.heap.size < w12.heap.size := Blc.lt
  have nd_w13 : w8.heap.size + 1 < w12.heap.size := Bld.lt
  have nx_w13 : w10.heap.size < w12.heap.size := Blx.lt
  have Bly : Bx w13 (w12.heap.size) 88 #[.bool sh15a, .slice ah15a nh15a ch15a, .slice Ah15a Nh15a Ch15a, .bool sh15b, .slice ah15b nh15b ch15b, .slice Ah15b Nh15b Ch15b] := by rw [hW]; exact (Bx.new0 _ _ _)
  replace hs := hs.trans hbw
  replace Bltime := hG.bx Bltime notMem0
  replace Blspeed := hG.bx Blspeed notMem0
  replace Bldepth := hG.bx Bldepth notMem0
  replace Bla := hG.bx Bla notMem0
  replace Blb := hG.bx Blb notMem0
  replace Blc := hG.bx Blc notMem0
  replace Bld := hG.bx Bld notMem0
  replace Blx := hG.bx Blx notMem0
  replace h10a := h10a.keep hk
  replace h10b := h10b.keep hk
  replace h11a := h11a.keep hk
  replace h11b := h11b.keep hk
  replace h12a := h12a.keep hk
  replace h12b := h12b.keep hk
  replace h13a := h13a.keep hk
  replace h13b := h13b.keep hk
  replace h14a := h14a.keep hk
  replace h14b := h14b.keep hk
  replace h15a := h15a.keep hk
  replace h15b := h15b.keep hk
  clear hW hG hk hbw
  have hz_w13 : w12.heap.size < w13.heap.size := Bly.lt
  with_reducible refine (l7_same _ _ _ _ _ (PV2.mk h14a h14b) (RV2.mk h15a h15b) sda sdb).mono ?_
  rintro e w14 ⟨rfl, hb⟩
  replace hs := bStep hs hb
  replace Bltime := Bltime.mono hb
  replace Blspeed := Blspeed.mono hb
  replace Bldepth := Bldepth.mono hb
  replace Bla := Bla.mono hb
  replace Blb := Blb.mono hb
  replace Blc := Blc.mono hb
  replace Bld := Bld.mono hb
  replace Blx := Blx.mono hb
  replace Bly := Bly.mono hb
  replace h10a := h10a.mono hb
  replace h10b := h10b.mono hb
  replace h11a := h11a.mono hb
  replace h11b := h11b.mono hb
  replace h12a := h12a.mono hb
  replace h12b := h12b.mono hb
  replace h13a := h13a.mono hb
  replace h13b := h13b.mono hb
  replace h14a := h14a.mono hb
  replace h14b := h14b.mono hb
  replace h15a := h15a.mono hb
  replace h15b := h15b.mono hb
  clear hb
  go_wp2_with fail
  with_reducible refine (l7_numbers _ l _ (HL.out.mono FC.kept hs) (by omega) HOK.out).mono ?_
  rintro e w15 ⟨_, _, rfl, h17, h18, hb⟩
  rw [← HLQ.out] at h17
  obtain ⟨ah17, kh17, rfl, h171, h172, h173⟩ := h17.slice
  rw [← HLQ.out] at h18
  obtain ⟨ah18, kh18, rfl, h181, h182, h183⟩ := h18.slice
  replace hs := bStep hs hb
  replace Bltime := Bltime.mono hb
  replace Blspeed := Blspeed.mono hb
  replace Bldepth := Bldepth.mono hb
  replace Bla := Bla.mono hb
  replace Blb := Blb.mono hb
  replace Blc := Blc.mono hb
  replace Bld := Bld.mono hb
  replace Blx := Blx.mono hb
  replace Bly := Bly.mono hb
  replace h10a := h10a.mono hb
  replace h10b := h10b.mono hb
  replace h11a := h11a.mono hb
  replace h11b := h11b.mono hb
  replace h12a := h12a.mono hb
  replace h12b := h12b.mono hb
  replace h13a := h13a.mono hb
  replace h13b := h13b.mono hb
  replace h14a := h14a.mono hb
  replace h14b := h14b.mono hb
  replace h15a := h15a.mono hb
  replace h15b := h15b.mono hb
  clear hb
  have cdepth_0 : w15.cell? ⟨w.heap.size + 1 + 1, 0, none⟩ = some (.int .i64 n5) := Bldepth.at 0 rfl
  have cdepth_1 : w15.cell? ⟨w.heap.size + 1 + 1, 1, none⟩ = some (.int .i64 d5) := Bldepth.at 1 rfl
  have cdepth_2 : w15.cell? ⟨w.heap.size + 1 + 1, 2, none⟩ = some (.int .i64 n6) := Bldepth.at 2 rfl
  have cdepth_3 : w15.cell? ⟨w.heap.size + 1 + 1, 3, none⟩ = some (.int .i64 d6) := Bldepth.at 3 rfl
  have Ldepth : w.heap.size + 1 + 1 < w15.heap.size := Bldepth.lt
  go_wp2_with fail
  clear cdepth_0 cdepth_1 cdepth_2 cdepth_3 Ldepth
  with_reducible refine (l7_span_ _ HS5.out HO5.out HO6.out HLO5.out HHI5.out).mono ?_
  rintro e w16 ⟨_, _, rfl, h19, h20, hb⟩
  obtain ⟨sh19a, ah19a, nh19a, ch19a, Ah19a, Nh19a, Ch19a, sh19b, ah19b, nh19b, ch19b, Ah19b, Nh19b, Ch19b, rfl, h19a, h19b⟩ := h19.shape
  obtain ⟨sh20a, ah20a, nh20a, ch20a, Ah20a, Nh20a, Ch20a, sh20b, ah20b, nh20b, ch20b, Ah20b, Nh20b, Ch20b, rfl, h20a, h20b⟩ := h20.shape
  replace hs := bStep hs hb
  replace Bltime := Bltime.mono hb
  replace Blspeed := Blspeed.mono hb
  replace Bldepth := Bldepth.mono hb
  replace Bla := Bla.mono hb
  replace Blb := Blb.mono hb
  replace Blc := Blc.mono hb
  replace Bld := Bld.mono hb
  replace Blx := Blx.mono hb
  replace Bly := Bly.mono hb
  replace h10a := h10a.mono hb
  replace h10b := h10b.mono hb
  replace h11a := h11a.mono hb
  replace h11b := h11b.mono hb
  replace h12a := h12a.mono hb
  replace h12b := h12b.mono hb
  replace h13a := h13a.mono hb
  replace h13b := h13b.mono hb
  replace h14a := h14a.mono hb
  replace h14b := h14b.mono hb
  replace h15a := h15a.mono hb
  replace h15b := h15b.mono hb
  replace h17 := rowsPB _ _ _ h17 hb
  replace h18 := rowsRB _ _ _ h18 hb
  clear hb
  go_wp2_with fail
  refine Calls.abs ?_
  intro w17 hW
  have hG : Gr [] w16 w17 := by rw [hW]; exact (Gr.refl _ _).alloc.alloc
  have hbw : Below w.heap.size w16 w17 := hG.below0 hs.size
  have hk : KeepD w16 w17 := hG.keep True.intro
  have sz_w17 : w.heap.size ≤ w16.heap.size := hs.size
  have ntime_w17 : w.heap.size < w16.heap.size := Bltime.lt
  have nspeed_w17 : w.heap.size + 1 < w16.heap.size := Blspeed.lt
  have ndepth_w17 : w.heap.size + 1 + 1 < w16.heap.size := Bldepth.lt
  have na_w17 : w6.heap.size < w16.heap.size := Bla.lt
  have nb_w17 : w6.heap.size + 1 < w16.heap.size := Blb.lt
  have nc_w17 : w8.heap.size < w16.heap.size := Blc.lt
  have nd_w17 : w8.heap.size + 1 < w16.heap.size := Bld.lt
  have nx_w17 : w10.heap.size < w16.heap.size := Blx.lt
  have ny_w17 : w12.heap.size < w16.heap.size := Bly.lt
  have Blv : Bx w17 (w16.heap.size) 86 #[.bool sh19a, .slice ah19a nh19a ch19a, .slice Ah19a Nh19a Ch19a, .bool sh19b, .slice ah19b nh19b ch19b, .slice Ah19b Nh19b Ch19b] := by rw [hW]; exact ((Bx.new0 _ _ _).alloc _)
  have Blw : Bx w17 (w16.heap.size + 1) 88 #[.bool sh20a, .slice ah20a nh20a ch20a, .slice Ah20a Nh20a Ch20a, .bool sh20b, .slice ah20b nh20b ch20b, .slice Ah20b Nh20b Ch20b] := by rw [hW]; exact (Bx.new0 _ _ _)
  replace hs := hs.trans hbw
  replace h17 := rowsPB _ _ _ h17 (hG.below0 (Nat.le_refl _))
  replace h18 := rowsRB _ _ _ h18 (hG.below0 (Nat.le_refl _))
  replace Bltime := hG.bx Bltime notMem0
  replace Blspeed := hG.bx Blspeed notMem0
  replace Bldepth := hG.bx Bldepth notMem0
  replace Bla := hG.bx Bla notMem0
  replace Blb := hG.bx Blb notMem0
  replace Blc := hG.bx Blc notMem0
  replace Bld := hG.bx Bld notMem0
  replace Blx := hG.bx Blx notMem0
  replace Bly := hG.bx Bly notMem0
  replace h10a := h10a.keep hk
  replace h10b := h10b.keep hk
  replace h11a := h11a.keep hk
  replace h11b := h11b.keep hk
  replace h12a := h12a.keep hk
  replace h12b := h12b.keep hk
  replace h13a := h13a.keep hk
  replace h13b := h13b.keep hk
  replace h14a := h14a.keep hk
  replace h14b := h14b.keep hk
  replace h15a := h15a.keep hk
  replace h15b := h15b.keep hk
  replace h19a := h19a.keep hk
  replace h19b := h19b.keep hk
  replace h20a := h20a.keep hk
  replace h20b := h20b.keep hk
  clear hW hG hk hbw
  have hz_w17 : w16.heap.size + 1 < w17.heap.size := Blw.lt
  with_reducible refine (sc_Plies_all h17 HZ5.out (PV2.mk h19a h19b) (SzQ.mid slo5) (SzQ.mid shi5) HPL.out).mono ?_
  rintro e w18 ⟨rfl, hb⟩
  replace hs := bStep hs hb
  replace Bltime := Bltime.mono hb
  replace Blspeed := Blspeed.mono hb
  replace Bldepth := Bldepth.mono hb
  replace Bla := Bla.mono hb
  replace Blb := Blb.mono hb
  replace Blc := Blc.mono hb
  replace Bld := Bld.mono hb
  replace Blx := Blx.mono hb
  replace Bly := Bly.mono hb
  replace Blv := Blv.mono hb
  replace Blw := Blw.mono hb
  replace h10a := h10a.mono hb
  replace h10b := h10b.mono hb
  replace h11a := h11a.mono hb
  replace h11b := h11b.mono hb
  replace h12a := h12a.mono hb
  replace h12b := h12b.mono hb
  replace h13a := h13a.mono hb
  replace h13b := h13b.mono hb
  replace h14a := h14a.mono hb
  replace h14b := h14b.mono hb
  replace h15a := h15a.mono hb
  replace h15b := h15b.mono hb
  replace h19a := h19a.mono hb
  replace h19b := h19b.mono hb
  replace h20a := h20a.mono hb
  replace h20b := h20b.mono hb
  replace h17 := rowsPB _ _ _ h17 hb
  replace h18 := rowsRB _ _ _ h18 hb
  clear hb
  have cw_0 : w18.cell? ⟨w16.heap.size + 1, 0, none⟩ = some (.bool sh20a) := Blw.at 0 rfl
  have cw_1 : w18.cell? ⟨w16.heap.size + 1, 1, none⟩ = some (.slice ah20a nh20a ch20a) := Blw.at 1 rfl
  have cw_2 : w18.cell? ⟨w16.heap.size + 1, 2, none⟩ = some (.slice Ah20a Nh20a Ch20a) := Blw.at 2 rfl
  have cw_3 : w18.cell? ⟨w16.heap.size + 1, 3, none⟩ = some (.bool sh20b) := Blw.at 3 rfl
  have cw_4 : w18.cell? ⟨w16.heap.size + 1, 4, none⟩ = some (.slice ah20b nh20b ch20b) := Blw.at 4 rfl
  have cw_5 : w18.cell? ⟨w16.heap.size + 1, 5, none⟩ = some (.slice Ah20b Nh20b Ch20b) := Blw.at 5 rfl
  have Lw : w16.heap.size + 1 < w18.heap.size := Blw.lt
  go_wp2_with fail
  clear cw_0 cw_1 cw_2 cw_3 cw_4 cw_5 Lw
  with_reducible refine (r7_Plies_all h18 HZ5.out (RV2.mk h20a h20b) (SzQ.mid slo5) (SzQ.mid shi5) HPL.out).mono ?_
  rintro e w19 ⟨rfl, hb⟩
  replace hs := bStep hs hb
  replace Bltime := Bltime.mono hb
  replace Blspeed := Blspeed.mono hb
  replace Bldepth := Bldepth.mono hb
  replace Bla := Bla.mono hb
  replace Blb := Blb.mono hb
  replace Blc := Blc.mono hb
  replace Bld := Bld.mono hb
  replace Blx := Blx.mono hb
  replace Bly := Bly.mono hb
  replace Blv := Blv.mono hb
  replace Blw := Blw.mono hb
  replace h10a := h10a.mono hb
  replace h10b := h10b.mono hb
  replace h11a := h11a.mono hb
  replace h11b := h11b.mono hb
  replace h12a := h12a.mono hb
  replace h12b := h12b.mono hb
  replace h13a := h13a.mono hb
  replace h13b := h13b.mono hb
  replace h14a := h14a.mono hb
  replace h14b := h14b.mono hb
  replace h15a := h15a.mono hb
  replace h15b := h15b.mono hb
  replace h19a := h19a.mono hb
  replace h19b := h19b.mono hb
  replace h20a := h20a.mono hb
  replace h20b := h20b.mono hb
  replace h17 := rowsPB _ _ _ h17 hb
  replace h18 := rowsRB _ _ _ h18 hb
  clear hb
  have q21b : (pc == pc) = true := beq_self_eq_true _
  have q21n : (pc != pc) = false := bne_self_eq_false _
  have q22b : (pa == pa) = true := beq_self_eq_true _
  have q22n : (pa != pa) = false := bne_self_eq_false _
  have q23b : (pb == pb) = true := beq_self_eq_true _
  have q23n : (pb != pb) = false := bne_self_eq_false _
  go_wp2_with fail
  with_reducible refine (HAW.out _).mono ?_
  rintro e w20 ⟨rfl, hb⟩
  replace hs := bStep hs hb
  replace Bltime := Bltime.mono hb
  replace Blspeed := Blspeed.mono hb
  replace Bldepth := Bldepth.mono hb
  replace Bla := Bla.mono hb
  replace Blb := Blb.mono hb
  replace Blc := Blc.mono hb
  replace Bld := Bld.mono hb
  replace Blx := Blx.mono hb
  replace Bly := Bly.mono hb
  replace Blv := Blv.mono hb
  replace Blw := Blw.mono hb
  replace h10a := h10a.mono hb
  replace h10b := h10b.mono hb
  replace h11a := h11a.mono hb
  replace h11b := h11b.mono hb
  replace h12a := h12a.mono hb
  replace h12b := h12b.mono hb
  replace h13a := h13a.mono hb
  replace h13b := h13b.mono hb
  replace h14a := h14a.mono hb
  replace h14b := h14b.mono hb
  replace h15a := h15a.mono hb
  replace h15b := h15b.mono hb
  replace h19a := h19a.mono hb
  replace h19b := h19b.mono hb
  replace h20a := h20a.mono hb
  replace h20b := h20b.mono hb
  replace h17 := rowsPB _ _ _ h17 hb
  replace h18 := rowsRB _ _ _ h18 hb
  clear hb
  go_wp2
  go_ret
  exact ⟨rfl, hs⟩
end Go.Proofs.YtlfnapfnpkhggaaGreat
