/-
  Law 08: AllowLimits.
-/
import Derived.Test.YtlmemilmhdhgbaaGreatLimAO
import Derived.Test.YtlmemilmhdhgbaaGreatAlLO
import Derived.Test.YtlmemilmhdhgbaaGreatAlAwO
set_option linter.unusedSimpArgs false
set_option linter.unusedVariables false
set_option maxRecDepth 100000
set_option maxHeartbeats 16000000
namespace Go.Proofs.YtlmemilmhdhgbaaGreat
open Go.RowKit Dg
attribute [local go_sem ↓] Go.wp_at_zero Go.wp_at_succ
theorem l1_OfM {n d : Int} {q : Rat} (w : World) (o : DOk (n, d)) (hq : fracQ n d = q) : Calls Tryz.prog 8 #[.agg #[.int .i64 n, .int .i64 d]] w (RetP w q) := l1_Of_ w o hq
theorem r1_OfM {n d : Int} {q : Rat} (w : World) (o : DOk (n, d)) (hq : fracQ n d = q) : Calls Tryz.prog 10 #[.agg #[.int .i64 n, .int .i64 d]] w (RetQ w q) := r1_Of_ w o hq
theorem l8_Limits_b1 (v0 : Value) (l : List (Int × Int)) (n1 d1 n2 d2 n3 d3 : Int) (w : World) (hl : RowsI 2 FC w v0 l) (h1 : 70 < l.length) :
  Calls Tryz.prog 3 #[v0, .agg #[.int .i64 n1, .int .i64 d1], .agg #[.int .i64 n2, .int .i64 d2], .agg #[.int .i64 n3, .int .i64 d3]] w (RetV w (.bool true)) := by
 obtain ⟨a0, c0, rfl, Dm, Dn, Do⟩ := hl.slice
 have hs := Below.refl w.heap.size w
 have Cn := Lib.hid hl
 clear hl
 go_enter Tryz.func3, Tryz.ntmps3
 go_wp2_with fail
 refine Calls.abs ?_
 intro w1 hW
 have hG : Gr [] w w1 := by rw [hW]; exact (Gr.refl _ _).alloc.alloc.alloc
 have B9 : Below w.heap.size w w1 := hG.below0 hs.size
 have hk : KeepD w w1 := hG.keep True.intro
 have D7 : w.heap.size ≤ w.heap.size := hs.size
 have B3 : Bx w1 (w.heap.size) 24 #[.int .i64 n1, .int .i64 d1] := by rw [hW]; exact (((Bx.new0 _ _ _).alloc _).alloc _)
 have B0 : Bx w1 (w.heap.size + 1) 24 #[.int .i64 n2, .int .i64 d2] := by rw [hW]; exact ((Bx.new0 _ _ _).alloc _)
 have B4 : Bx w1 (w.heap.size + 1 + 1) 24 #[.int .i64 n3, .int .i64 d3] := by rw [hW]; exact (Bx.new0 _ _ _)
 replace hs := hs.trans B9
 clear hW hG hk B9
 have D6 : w.heap.size + 1 + 1 < w1.heap.size := B4.lt
 with_reducible refine (l8_awake _).mono ?_
 rintro e w2 ⟨rfl, hb⟩
 replace hs := bStep hs hb
 replace B3 := B3.mono hb
 replace B0 := B0.mono hb
 replace B4 := B4.mono hb
 clear hb
 have q1 : 70 < l.length := (by omega)
 have Du : ((70 : Int) < (l.length : Int)) = True := eq_true (by omega)
 go_wp2_with fail
 with_reducible refine (l8_awake _).mono ?_
 rintro e w3 ⟨rfl, hb⟩
 replace hs := bStep hs hb
 replace B3 := B3.mono hb
 replace B0 := B0.mono hb
 replace B4 := B4.mono hb
 clear hb
 go_wp2
 go_ret
 exact ⟨rfl, hs⟩
theorem l8_Limits_b2 (v0 : Value) (l : List (Int × Int)) (n1 d1 n2 d2 n3 d3 : Int) (w : World) (hl : RowsI 2 FC w v0 l) (h1 : 20 < l.length) (h2 : l.length ≤ 64) :
  Calls Tryz.prog 3 #[v0, .agg #[.int .i64 n1, .int .i64 d1], .agg #[.int .i64 n2, .int .i64 d2], .agg #[.int .i64 n3, .int .i64 d3]] w (RetV w (.bool true)) := by
 obtain ⟨a0, c0, rfl, Dm, Dn, Do⟩ := hl.slice
 have hs := Below.refl w.heap.size w
 have Cn := Lib.hid hl
 clear hl
 go_enter Tryz.func3, Tryz.ntmps3
 go_wp2_with fail
 refine Calls.abs ?_
 intro w1 hW
 have hG : Gr [] w w1 := by rw [hW]; exact (Gr.refl _ _).alloc.alloc.alloc
 have B9 : Below w.heap.size w w1 := hG.below0 hs.size
 have hk : KeepD w w1 := hG.keep True.intro
 have D7 : w.heap.size ≤ w.heap.size := hs.size
 have B3 : Bx w1 (w.heap.size) 24 #[.int .i64 n1, .int .i64 d1] := by rw [hW]; exact (((Bx.new0 _ _ _).alloc _).alloc _)
 have B0 : Bx w1 (w.heap.size + 1) 24 #[.int .i64 n2, .int .i64 d2] := by rw [hW]; exact ((Bx.new0 _ _ _).alloc _)
 have B4 : Bx w1 (w.heap.size + 1 + 1) 24 #[.int .i64 n3, .int .i64 d3] := by rw [hW]; exact (Bx.new0 _ _ _)
 replace hs := hs.trans B9
 clear hW hG hk B9
 have D6 : w.heap.size + 1 + 1 < w1.heap.size := B4.lt
 with_reducible refine (l8_awake _).mono ?_
 rintro e w2 ⟨rfl, hb⟩
 replace hs := bStep hs hb
 replace B3 := B3.mono hb
 replace B0 := B0.mono hb
 replace B4 := B4.mono hb
 clear hb
 have q1 : ¬ (70 < l.length) := (by omega)
 have Du : ((70 : Int) < (l.length : Int)) = False := eq_false (by omega)
 have q2 : 20 < l.length := (by omega)
 have De : ((20 : Int) < (l.length : Int)) = True := eq_true (by omega)
 have q3 : l.length ≤ 64 := (by omega)
 have q3d : ((l.length : Int) ≤ 64) = True := eq_true (by omega)
 go_wp2_with fail
 with_reducible refine (l8_awake _).mono ?_
 rintro e w3 ⟨rfl, hb⟩
 replace hs := bStep hs hb
 replace B3 := B3.mono hb
 replace B0 := B0.mono hb
 replace B4 := B4.mono hb
 clear hb
 go_wp2
 go_ret
 exact ⟨rfl, hs⟩
theorem l8_Limits_b3 (v0 : Value) (l : List (Int × Int)) (n1 d1 n2 d2 n3 d3 : Int) (w : World) (hl : RowsI 2 FC w v0 l) (h1 : l.length ≤ 20 ∨ 64 < l.length) (h2 : l.length ≤ 70) (hS : ¬ (l.all smF24 = true)) :
  Calls Tryz.prog 3 #[v0, .agg #[.int .i64 n1, .int .i64 d1], .agg #[.int .i64 n2, .int .i64 d2], .agg #[.int .i64 n3, .int .i64 d3]] w (RetV w (.bool true)) := by
 obtain ⟨a0, c0, rfl, Dm, Dn, Do⟩ := hl.slice
 have hs := Below.refl w.heap.size w
 have Cn := Lib.hid hl
 have HS := Lib.hid hS
 clear hl hS
 go_enter Tryz.func3, Tryz.ntmps3
 go_wp2_with fail
 refine Calls.abs ?_
 intro w1 hW
 have hG : Gr [] w w1 := by rw [hW]; exact (Gr.refl _ _).alloc.alloc.alloc
 have B9 : Below w.heap.size w w1 := hG.below0 hs.size
 have hk : KeepD w w1 := hG.keep True.intro
 have D7 : w.heap.size ≤ w.heap.size := hs.size
 have B3 : Bx w1 (w.heap.size) 24 #[.int .i64 n1, .int .i64 d1] := by rw [hW]; exact (((Bx.new0 _ _ _).alloc _).alloc _)
 have B0 : Bx w1 (w.heap.size + 1) 24 #[.int .i64 n2, .int .i64 d2] := by rw [hW]; exact ((Bx.new0 _ _ _).alloc _)
 have B4 : Bx w1 (w.heap.size + 1 + 1) 24 #[.int .i64 n3, .int .i64 d3] := by rw [hW]; exact (Bx.new0 _ _ _)
 replace hs := hs.trans B9
 clear hW hG hk B9
 have D6 : w.heap.size + 1 + 1 < w1.heap.size := B4.lt
 with_reducible refine (l8_awake _).mono ?_
 rintro e w2 ⟨rfl, hb⟩
 replace hs := bStep hs hb
 replace B3 := B3.mono hb
 replace B0 := B0.mono hb
 replace B4 := B4.mono hb
 clear hb
 have q1 : ¬ (70 < l.length) := (by omega)
 have Du : ((70 : Int) < (l.length : Int)) = False := eq_false (by omega)
 by_cases q2 : 20 < l.length
 ·have De : ((20 : Int) < (l.length : Int)) = True := eq_true (by omega)
  have q3 : ¬ (l.length ≤ 64) := (by omega)
  have q3d : ((l.length : Int) ≤ 64) = False := eq_false (by omega)
  go_wp2_with fail
  with_reducible refine (l8_small24 _ l _ (Cn.out.mono FC.kept hs)).mono ?_
  rintro e w3 ⟨rfl, hb⟩
  replace hs := bStep hs hb
  replace B3 := B3.mono hb
  replace B0 := B0.mono hb
  replace B4 := B4.mono hb
  clear hb
  obtain ⟨b4, Cl⟩ : ∃ b : Bool, b = l.all smF24 := ⟨_, rfl⟩
  rw [← Cl]
  replace Cl := Lib.hid Cl
  have q5 : ¬ (l.all smF24 = true) := HS.out
  obtain rfl : b4 = false := by rw [Cl.out]; simpa using q5
  have q5H := Lib.hid q5
  clear q5
  go_wp2_with fail
  with_reducible refine (l8_awake _).mono ?_
  rintro e w4 ⟨rfl, hb⟩
  replace hs := bStep hs hb
  replace B3 := B3.mono hb
  replace B0 := B0.mono hb
  replace B4 := B4.mono hb
  clear hb
  go_wp2
  go_ret
  exact ⟨rfl, hs⟩
 ·have De : ((20 : Int) < (l.length : Int)) = False := eq_false (by omega)
  go_wp2_with fail
  with_reducible refine (l8_small24 _ l _ (Cn.out.mono FC.kept hs)).mono ?_
  rintro e w3 ⟨rfl, hb⟩
  replace hs := bStep hs hb
  replace B3 := B3.mono hb
  replace B0 := B0.mono hb
  replace B4 := B4.mono hb
  clear hb
  obtain ⟨b3, Ck⟩ : ∃ b : Bool, b = l.all smF24 := ⟨_, rfl⟩
  rw [← Ck]
  replace Ck := Lib.hid Ck
  have q4 : ¬ (l.all smF24 = true) := HS.out
  obtain rfl : b3 = false := by rw [Ck.out]; simpa using q4
  have q4H := Lib.hid q4
  clear q4
  go_wp2_with fail
  with_reducible refine (l8_awake _).mono ?_
  rintro e w4 ⟨rfl, hb⟩
  replace hs := bStep hs hb
  replace B3 := B3.mono hb
  replace B0 := B0.mono hb
  replace B4 := B4.mono hb
  clear hb
  go_wp2
  go_ret
  exact ⟨rfl, hs⟩
theorem l8_Limits_b4 (v0 : Value) (l : List (Int × Int)) (n1 d1 n2 d2 n3 d3 : Int) (w : World) (hl : RowsI 2 FC w v0 l) (h1 : l.length ≤ 20 ∨ 64 < l.length) (h2 : l.length ≤ 70) (hS : l.all smF24 = true) (hT : ¬ ([(n1, d1), (n2, d2), (n3, d3)].all smF8 = true)) :
  Calls Tryz.prog 3 #[v0, .agg #[.int .i64 n1, .int .i64 d1], .agg #[.int .i64 n2, .int .i64 d2], .agg #[.int .i64 n3, .int .i64 d3]] w (RetV w (.bool true)) := by
 obtain ⟨a0, c0, rfl, Dm, Dn, Do⟩ := hl.slice
 have hs := Below.refl w.heap.size w
 have Cn := Lib.hid hl
 have HS := Lib.hid hS
 have Dk := Lib.hid hT
 clear hl hS hT
 go_enter Tryz.func3, Tryz.ntmps3
 go_wp2_with fail
 refine Calls.abs ?_
 intro w1 hW
 have hG : Gr [] w w1 := by rw [hW]; exact (Gr.refl _ _).alloc.alloc.alloc
 have B9 : Below w.heap.size w w1 := hG.below0 hs.size
 have hk : KeepD w w1 := hG.keep True.intro
 have D7 : w.heap.size ≤ w.heap.size := hs.size
 have B3 : Bx w1 (w.heap.size) 24 #[.int .i64 n1, .int .i64 d1] := by rw [hW]; exact (((Bx.new0 _ _ _).alloc _).alloc _)
 have B0 : Bx w1 (w.heap.size + 1) 24 #[.int .i64 n2, .int .i64 d2] := by rw [hW]; exact ((Bx.new0 _ _ _).alloc _)
 have B4 : Bx w1 (w.heap.size + 1 + 1) 24 #[.int .i64 n3, .int .i64 d3] := by rw [hW]; exact (Bx.new0 _ _ _)
 replace hs := hs.trans B9
 clear hW hG hk B9
 have D6 : w.heap.size + 1 + 1 < w1.heap.size := B4.lt
 with_reducible refine (l8_awake _).mono ?_
 rintro e w2 ⟨rfl, hb⟩
 replace hs := bStep hs hb
 replace B3 := B3.mono hb
 replace B0 := B0.mono hb
 replace B4 := B4.mono hb
 clear hb
 have q1 : ¬ (70 < l.length) := (by omega)
 have Du : ((70 : Int) < (l.length : Int)) = False := eq_false (by omega)
 by_cases q2 : 20 < l.length
 ·have De : ((20 : Int) < (l.length : Int)) = True := eq_true (by omega)
  have q3 : ¬ (l.length ≤ 64) := (by omega)
  have q3d : ((l.length : Int) ≤ 64) = False := eq_false (by omega)
  go_wp2_with fail
  with_reducible refine (l8_small24 _ l _ (Cn.out.mono FC.kept hs)).mono ?_
  rintro e w3 ⟨rfl, hb⟩
  replace hs := bStep hs hb
  replace B3 := B3.mono hb
  replace B0 := B0.mono hb
  replace B4 := B4.mono hb
  clear hb
  obtain ⟨b4, Cl⟩ : ∃ b : Bool, b = l.all smF24 := ⟨_, rfl⟩
  rw [← Cl]
  replace Cl := Lib.hid Cl
  have q5 : l.all smF24 = true := HS.out
  obtain rfl : b4 = true := by rw [Cl.out]; exact q5
  have q5H := Lib.hid q5
  clear q5
  have B5 : w3.cell? ⟨w.heap.size, 0, none⟩ = some (.int .i64 n1) := B3.at 0 rfl
  have B6 : w3.cell? ⟨w.heap.size, 1, none⟩ = some (.int .i64 d1) := B3.at 1 rfl
  have Br : w.heap.size < w3.heap.size := B3.lt
  have B1 : w3.cell? ⟨w.heap.size + 1, 0, none⟩ = some (.int .i64 n2) := B0.at 0 rfl
  have B2 : w3.cell? ⟨w.heap.size + 1, 1, none⟩ = some (.int .i64 d2) := B0.at 1 rfl
  have Bj : w.heap.size + 1 < w3.heap.size := B0.lt
  have Bl : w3.cell? ⟨w.heap.size + 1 + 1, 0, none⟩ = some (.int .i64 n3) := B4.at 0 rfl
  have Bm : w3.cell? ⟨w.heap.size + 1 + 1, 1, none⟩ = some (.int .i64 d3) := B4.at 1 rfl
  have By : w.heap.size + 1 + 1 < w3.heap.size := B4.lt
  have Be : w.heap.size < w3.heap.size := by omega
  have Bs : w.heap.size + 1 < w3.heap.size := by omega
  go_wp2_with fail
  clear B5 B6 B1 B2 Bl Bm Br Bj By Be Bs
  refine Calls.abs ?_
  intro w4 hW
  have hG : Gr [] w3 w4 := by rw [hW]; exact (Gr.refl _ _).alloc
  have B9 : Below w.heap.size w3 w4 := hG.below0 hs.size
  have hk : KeepD w3 w4 := hG.keep True.intro
  have Dj : w.heap.size ≤ w3.heap.size := hs.size
  have Co : w.heap.size < w3.heap.size := B3.lt
  have C6 : w.heap.size + 1 < w3.heap.size := B0.lt
  have Cr : w.heap.size + 1 + 1 < w3.heap.size := B4.lt
  have Bf : Bx w4 (w3.heap.size) 24 #[.int .i64 n1, .int .i64 d1, .int .i64 n2, .int .i64 d2, .int .i64 n3, .int .i64 d3] := by rw [hW]; exact (Bx.new0 _ _ _)
  replace hs := hs.trans B9
  replace B3 := hG.bx B3 notMem0
  replace B0 := hG.bx B0 notMem0
  replace B4 := hG.bx B4 notMem0
  clear hW hG hk B9
  have Di : w3.heap.size < w4.heap.size := Bf.lt
  with_reducible refine (l8_small8 _ [(n1, d1), (n2, d2), (n3, d3)] _ (rowsFt3 Bf)).mono ?_
  rintro e w5 ⟨rfl, hb⟩
  replace hs := bStep hs hb
  replace B3 := B3.mono hb
  replace B0 := B0.mono hb
  replace B4 := B4.mono hb
  replace Bf := Bf.mono hb
  clear hb
  obtain ⟨b6, Cx⟩ : ∃ b : Bool, b = [(n1, d1), (n2, d2), (n3, d3)].all smF8 := ⟨_, rfl⟩
  rw [← Cx]
  replace Cx := Lib.hid Cx
  have q7 : ¬ ([(n1, d1), (n2, d2), (n3, d3)].all smF8 = true) := Dk.out
  obtain rfl : b6 = false := by rw [Cx.out]; simpa using q7
  have q7H := Lib.hid q7
  clear q7
  go_wp2_with fail
  with_reducible refine (l8_awake _).mono ?_
  rintro e w6 ⟨rfl, hb⟩
  replace hs := bStep hs hb
  replace B3 := B3.mono hb
  replace B0 := B0.mono hb
  replace B4 := B4.mono hb
  replace Bf := Bf.mono hb
  clear hb
  go_wp2
  go_ret
  exact ⟨rfl, hs⟩
 ·have De : ((20 : Int) < (l.length : Int)) = False := eq_false (by omega)
  go_wp2_with fail
  with_reducible refine (l8_small24 _ l _ (Cn.out.mono FC.kept hs)).mono ?_
  rintro e w3 ⟨rfl, hb⟩
  replace hs := bStep hs hb
  replace B3 := B3.mono hb
  replace B0 := B0.mono hb
  replace B4 := B4.mono hb
  clear hb
  obtain ⟨b3, Ck⟩ : ∃ b : Bool, b = l.all smF24 := ⟨_, rfl⟩
  rw [← Ck]
  replace Ck := Lib.hid Ck
  have q4 : l.all smF24 = true := HS.out
  obtain rfl : b3 = true := by rw [Ck.out]; exact q4
  have q4H := Lib.hid q4
  clear q4
  have B5 : w3.cell? ⟨w.heap.size, 0, none⟩ = some (.int .i64 n1) := B3.at 0 rfl
  have B6 : w3.cell? ⟨w.heap.size, 1, none⟩ = some (.int .i64 d1) := B3.at 1 rfl
  have Br : w.heap.size < w3.heap.size := B3.lt
  have B1 : w3.cell? ⟨w.heap.size + 1, 0, none⟩ = some (.int .i64 n2) := B0.at 0 rfl
  have B2 : w3.cell? ⟨w.heap.size + 1, 1, none⟩ = some (.int .i64 d2) := B0.at 1 rfl
  have Bj : w.heap.size + 1 < w3.heap.size := B0.lt
  have Bl : w3.cell? ⟨w.heap.size + 1 + 1, 0, none⟩ = some (.int .i64 n3) := B4.at 0 rfl
  have Bm : w3.cell? ⟨w.heap.size + 1 + 1, 1, none⟩ = some (.int .i64 d3) := B4.at 1 rfl
  have By : w.heap.size + 1 + 1 < w3.heap.size := B4.lt
  have Be : w.heap.size < w3.heap.size := by omega
  have Bs : w.heap.size + 1 < w3.heap.size := by omega
  go_wp2_with fail
  clear B5 B6 B1 B2 Bl Bm Br Bj By Be Bs
  refine Calls.abs ?_
  intro w4 hW
  have hG : Gr [] w3 w4 := by rw [hW]; exact (Gr.refl _ _).alloc
  have B9 : Below w.heap.size w3 w4 := hG.below0 hs.size
  have hk : KeepD w3 w4 := hG.keep True.intro
  have Dj : w.heap.size ≤ w3.heap.size := hs.size
  have Co : w.heap.size < w3.heap.size := B3.lt
  have C6 : w.heap.size + 1 < w3.heap.size := B0.lt
  have Cr : w.heap.size + 1 + 1 < w3.heap.size := B4.lt
  have Bf : Bx w4 (w3.heap.size) 24 #[.int .i64 n1, .int .i64 d1, .int .i64 n2, .int .i64 d2, .int .i64 n3, .int .i64 d3] := by rw [hW]; exact (Bx.new0 _ _ _)
  replace hs := hs.trans B9
  replace B3 := hG.bx B3 notMem0
  replace B0 := hG.bx B0 notMem0
  replace B4 := hG.bx B4 notMem0
  clear hW hG hk B9
  have Di : w3.heap.size < w4.heap.size := Bf.lt
  with_reducible refine (l8_small8 _ [(n1, d1), (n2, d2), (n3, d3)] _ (rowsFt3 Bf)).mono ?_
  rintro e w5 ⟨rfl, hb⟩
  replace hs := bStep hs hb
  replace B3 := B3.mono hb
  replace B0 := B0.mono hb
  replace B4 := B4.mono hb
  replace Bf := Bf.mono hb
  clear hb
  obtain ⟨b5, Cw⟩ : ∃ b : Bool, b = [(n1, d1), (n2, d2), (n3, d3)].all smF8 := ⟨_, rfl⟩
  rw [← Cw]
  replace Cw := Lib.hid Cw
  have q6 : ¬ ([(n1, d1), (n2, d2), (n3, d3)].all smF8 = true) := Dk.out
  obtain rfl : b5 = false := by rw [Cw.out]; simpa using q6
  have q6H := Lib.hid q6
  clear q6
  go_wp2_with fail
  with_reducible refine (l8_awake _).mono ?_
  rintro e w6 ⟨rfl, hb⟩
  replace hs := bStep hs hb
  replace B3 := B3.mono hb
  replace B0 := B0.mono hb
  replace B4 := B4.mono hb
  replace Bf := Bf.mono hb
  clear hb
  go_wp2
  go_ret
  exact ⟨rfl, hs⟩
theorem l8_Limits_ok (v0 : Value) (l : List (Int × Int)) (n1 d1 n2 d2 n3 d3 : Int) (w : World) (hl : RowsI 2 FC w v0 l) (h1 : l.length ≤ 20 ∨ 64 < l.length) (h2 : l.length ≤ 70) (hS : l.all smF24 = true) (hT : [(n1, d1), (n2, d2), (n3, d3)].all smF8 = true) (hlo : ∀ x ∈ l, DOk x) (o1 : DOk (n1, d1)) (o2 : DOk (n2, d2)) (o3 : DOk (n3, d3)) (A : List Rat) (hAE : l.map fr8 = A) (hA : A.length ≤ 20 ∨ 64 < A.length) (hz : ∀ i, i < A.length → SzQ 1 (nthQ A i))
  (u c mo : Rat) (hu : fracQ n1 d1 = u) (hc : fracQ n2 d2 = c) (hmo : fracQ n3 d3 = mo) (su : SzQ 1 u) (sc : SzQ 1 c) (smo : SzQ 1 mo)
  (lv qv mv vv : Rat) (le qe me ov oe : Int) (hlv : lmV A u c = lv) (hle : lmE A u c = le) (hqv : qnV A u = qv) (hqe : qnE A u = qe) (hmv : mnV A = mv) (hvv : vrV A = vv) (hme : mnE A = me) (hov : otV A mo = ov) (hoe : otE A mo = oe)
  (slv : SzQ 1 lv) (sqv : SzQ 1 qv) (smv : SzQ 121 mv) (svv : SzQ 7000 vv) :
  Calls Tryz.prog 3 #[v0, .agg #[.int .i64 n1, .int .i64 d1], .agg #[.int .i64 n2, .int .i64 d2], .agg #[.int .i64 n3, .int .i64 d3]] w (RetV w (.bool true)) := by
 obtain ⟨a0, c0, rfl, Dm, Dn, Do⟩ := hl.slice
 have hs := Below.refl w.heap.size w
 have Cn := Lib.hid hl
 have HS := Lib.hid hS
 have Dk := Lib.hid hT
 have HLO := Lib.hid hlo
 have O1 := Lib.hid o1
 have O2 := Lib.hid o2
 have O3 := Lib.hid o3
 have HAE := Lib.hid hAE
 have HZ := Lib.hid hz
 have HU := Lib.hid hu
 have HC := Lib.hid hc
 have HMO := Lib.hid hmo
 have D1 := Lib.hid hlv
 have D0 := Lib.hid hle
 have HQV := Lib.hid hqv
 have HQE := Lib.hid hqe
 have HMV := Lib.hid hmv
 have HVV := Lib.hid hvv
 have HME := Lib.hid hme
 have HOV := Lib.hid hov
 have HOE := Lib.hid hoe
 clear hl hS hT hlo o1 o2 o3 hAE hz hu hc hmo hlv hle hqv hqe hmv hvv hme hov hoe
 have H1 := Lib.hid h1
 clear h1
 go_enter Tryz.func3, Tryz.ntmps3
 go_upto_region 1 with fail
 refine Code.abs ?_
 intro w1 hW
 have hG : Gr [] w w1 := by rw [hW]; exact (Gr.refl _ _).alloc.alloc.alloc
 have B9 : Below w.heap.size w w1 := hG.below0 hs.size
 have hk : KeepD w w1 := hG.keep True.intro
 have D7 : w.heap.size ≤ w.heap.size := hs.size
 have B3 : Bx w1 (w.heap.size) 24 #[.int .i64 n1, .int .i64 d1] := by rw [hW]; exact (((Bx.new0 _ _ _).alloc _).alloc _)
 have B0 : Bx w1 (w.heap.size + 1) 24 #[.int .i64 n2, .int .i64 d2] := by rw [hW]; exact ((Bx.new0 _ _ _).alloc _)
 have B4 : Bx w1 (w.heap.size + 1 + 1) 24 #[.int .i64 n3, .int .i64 d3] := by rw [hW]; exact (Bx.new0 _ _ _)
 replace hs := hs.trans B9
 clear hW hG hk B9
 have D6 : w.heap.size + 1 + 1 < w1.heap.size := B4.lt
 go_cut [58] (fun kv wz => kv = .bool false ∧ Below w.heap.size w wz ∧ Bx wz (w.heap.size) 24 #[.int .i64 n1, .int .i64 d1] ∧ Bx wz (w.heap.size + 1) 24 #[.int .i64 n2, .int .i64 d2] ∧ Bx wz (w.heap.size + 1 + 1) 24 #[.int .i64 n3, .int .i64 d3])
 case first =>
  go_wp2_with fail
  with_reducible refine (l8_awake _).mono ?_
  rintro e w2 ⟨rfl, hb⟩
  replace hs := bStep hs hb
  replace B3 := B3.mono hb
  replace B0 := B0.mono hb
  replace B4 := B4.mono hb
  clear hb
  have q1 : ¬ (70 < l.length) := (by omega)
  have Du : ((70 : Int) < (l.length : Int)) = False := eq_false (by omega)
  by_cases q2 : 20 < l.length
  ·have De : ((20 : Int) < (l.length : Int)) = True := eq_true (by omega)
   have q3 : ¬ (l.length ≤ 64) := (by have := H1.out; omega)
   have q3d : ((l.length : Int) ≤ 64) = False := eq_false (by omega)
   go_wp2_with fail
   with_reducible refine (l8_small24 _ l _ (Cn.out.mono FC.kept hs)).mono ?_
   rintro e w3 ⟨rfl, hb⟩
   replace hs := bStep hs hb
   replace B3 := B3.mono hb
   replace B0 := B0.mono hb
   replace B4 := B4.mono hb
   clear hb
   obtain ⟨b4, Cl⟩ : ∃ b : Bool, b = l.all smF24 := ⟨_, rfl⟩
   rw [← Cl]
   replace Cl := Lib.hid Cl
   have q5 : l.all smF24 = true := HS.out
   obtain rfl : b4 = true := by rw [Cl.out]; exact q5
   have q5H := Lib.hid q5
   clear q5
   have B5 : w3.cell? ⟨w.heap.size, 0, none⟩ = some (.int .i64 n1) := B3.at 0 rfl
   have B6 : w3.cell? ⟨w.heap.size, 1, none⟩ = some (.int .i64 d1) := B3.at 1 rfl
   have Br : w.heap.size < w3.heap.size := B3.lt
   have B1 : w3.cell? ⟨w.heap.size + 1, 0, none⟩ = some (.int .i64 n2) := B0.at 0 rfl
   have B2 : w3.cell? ⟨w.heap.size + 1, 1, none⟩ = some (.int .i64 d2) := B0.at 1 rfl
   have Bj : w.heap.size + 1 < w3.heap.size := B0.lt
   have Bl : w3.cell? ⟨w.heap.size + 1 + 1, 0, none⟩ = some (.int .i64 n3) := B4.at 0 rfl
   have Bm : w3.cell? ⟨w.heap.size + 1 + 1, 1, none⟩ = some (.int .i64 d3) := B4.at 1 rfl
   have By : w.heap.size + 1 + 1 < w3.heap.size := B4.lt
   have Be : w.heap.size < w3.heap.size := by omega
   have Bs : w.heap.size + 1 < w3.heap.size := by omega
   go_wp2_with fail
   clear B5 B6 B1 B2 Bl Bm Br Bj By Be Bs
   refine Calls.abs ?_
   intro w4 hW
   have hG : Gr [] w3 w4 := by rw [hW]; exact (Gr.refl _ _).alloc
   have B9 : Below w.heap.size w3 w4 := hG.below0 hs.size
   have hk : KeepD w3 w4 := hG.keep True.intro
   have Dj : w.heap.size ≤ w3.heap.size := hs.size
   have Co : w.heap.size < w3.heap.size := B3.lt
   have C6 : w.heap.size + 1 < w3.heap.size := B0.lt
   have Cr : w.heap.size + 1 + 1 < w3.heap.size := B4.lt
   have Bf : Bx w4 (w3.heap.size) 24 #[.int .i64 n1, .int .i64 d1, .int .i64 n2, .int .i64 d2, .int .i64 n3, .int .i64 d3] := by rw [hW]; exact (Bx.new0 _ _ _)
   replace hs := hs.trans B9
   replace B3 := hG.bx B3 notMem0
   replace B0 := hG.bx B0 notMem0
   replace B4 := hG.bx B4 notMem0
   clear hW hG hk B9
   have Di : w3.heap.size < w4.heap.size := Bf.lt
   with_reducible refine (l8_small8 _ [(n1, d1), (n2, d2), (n3, d3)] _ (rowsFt3 Bf)).mono ?_
   rintro e w5 ⟨rfl, hb⟩
   replace hs := bStep hs hb
   replace B3 := B3.mono hb
   replace B0 := B0.mono hb
   replace B4 := B4.mono hb
   replace Bf := Bf.mono hb
   clear hb
   obtain ⟨b6, Cx⟩ : ∃ b : Bool, b = [(n1, d1), (n2, d2), (n3, d3)].all smF8 := ⟨_, rfl⟩
   rw [← Cx]
   replace Cx := Lib.hid Cx
   go_wp2_with fail
   go_meet
   exact ⟨(congrArg (fun z => Value.bool !z) (Cx.out.trans Dk.out)), hs, B3, B0, B4⟩
  ·have De : ((20 : Int) < (l.length : Int)) = False := eq_false (by omega)
   go_wp2_with fail
   with_reducible refine (l8_small24 _ l _ (Cn.out.mono FC.kept hs)).mono ?_
   rintro e w3 ⟨rfl, hb⟩
   replace hs := bStep hs hb
   replace B3 := B3.mono hb
   replace B0 := B0.mono hb
   replace B4 := B4.mono hb
   clear hb
   obtain ⟨b3, Ck⟩ : ∃ b : Bool, b = l.all smF24 := ⟨_, rfl⟩
   rw [← Ck]
   replace Ck := Lib.hid Ck
   have q4 : l.all smF24 = true := HS.out
   obtain rfl : b3 = true := by rw [Ck.out]; exact q4
   have q4H := Lib.hid q4
   clear q4
   have B5 : w3.cell? ⟨w.heap.size, 0, none⟩ = some (.int .i64 n1) := B3.at 0 rfl
   have B6 : w3.cell? ⟨w.heap.size, 1, none⟩ = some (.int .i64 d1) := B3.at 1 rfl
   have Br : w.heap.size < w3.heap.size := B3.lt
   have B1 : w3.cell? ⟨w.heap.size + 1, 0, none⟩ = some (.int .i64 n2) := B0.at 0 rfl
   have B2 : w3.cell? ⟨w.heap.size + 1, 1, none⟩ = some (.int .i64 d2) := B0.at 1 rfl
   have Bj : w.heap.size + 1 < w3.heap.size := B0.lt
   have Bl : w3.cell? ⟨w.heap.size + 1 + 1, 0, none⟩ = some (.int .i64 n3) := B4.at 0 rfl
   have Bm : w3.cell? ⟨w.heap.size + 1 + 1, 1, none⟩ = some (.int .i64 d3) := B4.at 1 rfl
   have By : w.heap.size + 1 + 1 < w3.heap.size := B4.lt
   have Be : w.heap.size < w3.heap.size := by omega
   have Bs : w.heap.size + 1 < w3.heap.size := by omega
   go_wp2_with fail
   clear B5 B6 B1 B2 Bl Bm Br Bj By Be Bs
   refine Calls.abs ?_
   intro w4 hW
   have hG : Gr [] w3 w4 := by rw [hW]; exact (Gr.refl _ _).alloc
   have B9 : Below w.heap.size w3 w4 := hG.below0 hs.size
   have hk : KeepD w3 w4 := hG.keep True.intro
   have Dj : w.heap.size ≤ w3.heap.size := hs.size
   have Co : w.heap.size < w3.heap.size := B3.lt
   have C6 : w.heap.size + 1 < w3.heap.size := B0.lt
   have Cr : w.heap.size + 1 + 1 < w3.heap.size := B4.lt
   have Bf : Bx w4 (w3.heap.size) 24 #[.int .i64 n1, .int .i64 d1, .int .i64 n2, .int .i64 d2, .int .i64 n3, .int .i64 d3] := by rw [hW]; exact (Bx.new0 _ _ _)
   replace hs := hs.trans B9
   replace B3 := hG.bx B3 notMem0
   replace B0 := hG.bx B0 notMem0
   replace B4 := hG.bx B4 notMem0
   clear hW hG hk B9
   have Di : w3.heap.size < w4.heap.size := Bf.lt
   with_reducible refine (l8_small8 _ [(n1, d1), (n2, d2), (n3, d3)] _ (rowsFt3 Bf)).mono ?_
   rintro e w5 ⟨rfl, hb⟩
   replace hs := bStep hs hb
   replace B3 := B3.mono hb
   replace B0 := B0.mono hb
   replace B4 := B4.mono hb
   replace Bf := Bf.mono hb
   clear hb
   obtain ⟨b5, Cw⟩ : ∃ b : Bool, b = [(n1, d1), (n2, d2), (n3, d3)].all smF8 := ⟨_, rfl⟩
   rw [← Cw]
   replace Cw := Lib.hid Cw
   go_wp2_with fail
   go_meet
   exact ⟨(congrArg (fun z => Value.bool !z) (Cw.out.trans Dk.out)), hs, B3, B0, B4⟩
 clear hs B3 B0 B4
 obtain ⟨rfl, hs, B3, B0, B4⟩ := hcut
 go_wp2_with fail
 with_reducible refine (l8_list _ l _ (Cn.out.mono FC.kept hs) (by omega) HLO.out).mono ?_
 rintro e w2 ⟨_, _, rfl, Dt, Dv, hb⟩
 rw [HAE.out] at Dt
 obtain ⟨apA1, kpA1, rfl, pA11, pA12, -⟩ := Dt.toI.slice
 rw [HAE.out] at Dv
 obtain ⟨arA2, krA2, rfl, rA21, rA22, -⟩ := Dv.toI.slice
 replace hs := bStep hs hb
 replace B3 := B3.mono hb
 replace B0 := B0.mono hb
 replace B4 := B4.mono hb
 clear hb
 go_upto_region 4 with fail
 have J6 := Lib.hid hs
 clear hs
 have hs := Below.refl w2.heap.size w2
 have Jz : w.heap.size < w2.heap.size := B3.lt
 have Dz : w.heap.size + 1 < w2.heap.size := B0.lt
 have K2 : w.heap.size + 1 + 1 < w2.heap.size := B4.lt
 have Cp := Lib.hid Dt
 clear Dt
 have Cq := Lib.hid Dv
 clear Dv
 go_upto_region 4 with fail
 go_cut [11, 12] (fun kv0 kx0 wz => ∃ gx C5 C2 C4 C3 Bz C1 C0, kv0 = .pointer (some ⟨gx, 0, none⟩) ∧ kx0 = .int .i64 le ∧ w2.heap.size ≤ gx ∧ gx ≠ w.heap.size ∧ gx ≠ (w.heap.size + 1) ∧ gx ≠ (w.heap.size + 1 + 1) ∧ Bx wz gx 34 #[.bool C5, .slice C2 C4 C3, .slice Bz C1 C0] ∧ Below w2.heap.size w2 wz ∧ Bx wz (w.heap.size) 24 #[.int .i64 n1, .int .i64 d1] ∧ Bx wz (w.heap.size + 1) 24 #[.int .i64 n2, .int .i64 d2] ∧ Bx wz (w.heap.size + 1 + 1) 24 #[.int .i64 n3, .int .i64 d3] ∧ PV wz (.agg #[.bool C5, .slice C2 C4 C3, .slice Bz C1 C0]) (lv))
 case first => as_aux_lemma =>
  refine U_region (S := fun w' => w'.cell? ⟨w.heap.size, 0, none⟩ = some (.int .i64 n1) ∧ w'.cell? ⟨w.heap.size, 1, none⟩ = some (.int .i64 d1) ∧ w'.cell? ⟨w.heap.size + 1, 0, none⟩ = some (.int .i64 n2) ∧ w'.cell? ⟨w.heap.size + 1, 1, none⟩ = some (.int .i64 d2)) (by kernel_rfl) 11 ?_
  refine AnyU.abs ?_
  intro w3 hW
  have hb : Below w2.heap.size w2 w3 := by rw [hW]; exact bDrew _
  replace hs := bStep hs hb
  replace B3 := B3.mono hb
  replace B0 := B0.mono hb
  replace B4 := B4.mono hb
  clear hb hW
  have B5 : w3.cell? ⟨w.heap.size, 0, none⟩ = some (.int .i64 n1) := B3.at 0 rfl
  have B6 : w3.cell? ⟨w.heap.size, 1, none⟩ = some (.int .i64 d1) := B3.at 1 rfl
  have B1 : w3.cell? ⟨w.heap.size + 1, 0, none⟩ = some (.int .i64 n2) := B0.at 0 rfl
  have B2 : w3.cell? ⟨w.heap.size + 1, 1, none⟩ = some (.int .i64 d2) := B0.at 1 rfl
  have hH := (show w3.cell? ⟨w.heap.size, 0, none⟩ = some (.int .i64 n1) ∧ w3.cell? ⟨w.heap.size, 1, none⟩ = some (.int .i64 d1) ∧ w3.cell? ⟨w.heap.size + 1, 0, none⟩ = some (.int .i64 n2) ∧ w3.cell? ⟨w.heap.size + 1, 1, none⟩ = some (.int .i64 d2) from ⟨B5, B6, B1, B2⟩)
  refine U_tt 0 ?_ ?_ hH ?_
  rotate_left
  ·(intro w Ba; (try dsimp only at Ba); go_simp; try with_reducible rfl)
  try simp only [LY]
  refine U_tt 1 ?_ ?_ hH ?_
  rotate_left
  ·(intro w Ba; (try dsimp only at Ba); go_simp; try with_reducible rfl)
  try simp only [LY]
  refine U_tt 3 ?_ ?_ hH ?_
  rotate_left
  ·(intro w Ba; (try dsimp only at Ba); go_simp; try with_reducible rfl)
  try simp only [LY]
  refine U_two (i := 2) (j := 9) (by kernel_rfl) rfl rfl (fun K hK => ?_) (fun K hK => ?_)
  ·clear hH
   go_simp
   (with_reducible refine (l1_OfM _ O1.out HU.out).mono ?_)
   rintro e w4 ⟨_, rfl, h4, hb⟩
   obtain ⟨sh4, ah4, nh4, ch4, Ah4, Nh4, Ch4, rfl⟩ := h4.shape
   replace hs := bStep hs hb
   replace B3 := B3.mono hb
   replace B0 := B0.mono hb
   replace B4 := B4.mono hb
   replace B5 := cellK B5 hb
   replace B6 := cellK B6 hb
   replace B1 := cellK B1 hb
   replace B2 := cellK B2 hb
   clear hb
   try go_wp2_with fail
   refine hK.out _ _ ⟨B5, B6, B1, B2⟩ (fun hH => ?_)
   clear hK K
   try simp only [LY]
   refine U_two (i := 4) (j := 9) (by kernel_rfl) rfl rfl (fun K hK => ?_) (fun K hK => ?_)
   ·clear hH
    go_simp
    (with_reducible refine (l1_OfM _ O2.out HC.out).mono ?_)
    rintro e w5 ⟨_, rfl, h5, hb⟩
    obtain ⟨sh5, ah5, nh5, ch5, Ah5, Nh5, Ch5, rfl⟩ := h5.shape
    replace hs := bStep hs hb
    replace B3 := B3.mono hb
    replace B0 := B0.mono hb
    replace B4 := B4.mono hb
    replace h4 := h4.mono hb
    replace B5 := cellK B5 hb
    replace B6 := cellK B6 hb
    replace B1 := cellK B1 hb
    replace B2 := cellK B2 hb
    clear hb
    try go_wp2_with fail
    refine hK.out _ _ ⟨B5, B6, B1, B2⟩ (fun hH => ?_)
    clear hK K
    try simp only [LY]
    refine U_two (i := 5) (j := 9) (by kernel_rfl) rfl rfl (fun K hK => ?_) (fun K hK => ?_)
    ·clear hH
     go_simp
     (with_reducible refine (al_LimitA _ (rowsJ PC.kept _ _ _ Cp.out hs) h4 su h5 sc HZ.out hA D1.out D0.out).mono ?_)
     rintro e w6 ⟨_, rfl, h6, hb⟩
     obtain ⟨C5, C2, C4, C3, Bz, C1, C0, rfl⟩ := h6.shape
     replace hs := bStep hs hb
     replace B3 := B3.mono hb
     replace B0 := B0.mono hb
     replace B4 := B4.mono hb
     replace h4 := h4.mono hb
     replace h5 := h5.mono hb
     replace B5 := cellK B5 hb
     replace B6 := cellK B6 hb
     replace B1 := cellK B1 hb
     replace B2 := cellK B2 hb
     clear hb
     try go_wp2_with fail
     refine hK.out _ _ ⟨B5, B6, B1, B2⟩ (fun hH => ?_)
     clear hK K
     try simp only [LY]
     refine U_tt 6 ?_ ?_ hH ?_
     rotate_left
     ·(intro w Ba; (try dsimp only at Ba); go_simp; try with_reducible rfl)
     try simp only [LY]
     refine U_tt 7 ?_ ?_ hH ?_
     rotate_left
     ·(intro w Ba; (try dsimp only at Ba); go_simp; try with_reducible rfl)
     try simp only [LY]
     refine U_tt 8 ?_ ?_ hH ?_
     rotate_left
     ·(intro w Ba; (try dsimp only at Ba); go_simp; try with_reducible rfl)
     try simp only [LY]
     clear hH
     refine U_one (i := 9) (by kernel_rfl) rfl (fun K hK => ?_)
     go_simp
     generalize hWn : (w6.alloc (.cells #[.bool false, .slice none 0 0, .slice none 0 0] 34)) = w7
     have hb : Below w6.heap.size w6 w7 := by rw [← hWn]; exact (Below.refl _ _).alloc (Nat.le_refl _) _
     have B7 : Bx w7 (w6.heap.size) 34 #[.bool false, .slice none 0 0, .slice none 0 0] := by rw [← hWn]; exact Bx.new _ _ _
     have Cs : w.heap.size ≠ w6.heap.size := by have := B3.lt; omega
     have C7 : w.heap.size + 1 ≠ w6.heap.size := by have := B0.lt; omega
     have Cy : w.heap.size + 1 + 1 ≠ w6.heap.size := by have := B4.lt; omega
     have Cu : w2.heap.size ≤ w6.heap.size := hs.size
     replace hs := bStep hs hb
     replace B3 := B3.mono hb
     replace B0 := B0.mono hb
     replace B4 := B4.mono hb
     replace h4 := h4.mono hb
     replace h5 := h5.mono hb
     replace h6 := h6.mono hb
     replace B5 := cellK B5 hb
     replace B6 := cellK B6 hb
     replace B1 := cellK B1 hb
     replace B2 := cellK B2 hb
     clear hb hWn
     refine hK.out _ _ ⟨B5, B6, B1, B2⟩ (fun hH => ?_)
     clear hK K
     try simp only [LY]
     clear hH
     have D8 : w7.cell? ⟨w6.heap.size, 0, none⟩ = some (.bool false) := B7.at 0 rfl
     have D9 : w7.cell? ⟨w6.heap.size, 1, none⟩ = some (.slice none 0 0) := B7.at 1 rfl
     have Da : w7.cell? ⟨w6.heap.size, 2, none⟩ = some (.slice none 0 0) := B7.at 2 rfl
     have fx := B7.free
     have Lx : w6.heap.size < w7.heap.size := B7.lt
     refine U_one (i := 10) (by kernel_rfl) rfl (fun K hK => ?_)
     go_simp
     generalize hW_ : (((w7.setCell ⟨w6.heap.size, 0, none⟩ (.bool C5)).setCell ⟨w6.heap.size, 1, none⟩ (.slice C2 C4 C3)).setCell ⟨w6.heap.size, 2, none⟩ (.slice Bz C1 C0)) = w8
     have hW := hW_.symm
     clear hW_
     have hG : Gr [w6.heap.size] w7 w8 := by rw [hW]; exact (Gr.refl _ _).set.set.set
     have Cj := hs.size
     have lx := B7.lt
     have B9 : Below w2.heap.size w7 w8 := hG.below1 hs.size (by first | omega | assumption)
     have hk : KeepD w7 w8 := hG.keep ⟨⟨_, B7.ty, by decide⟩, True.intro⟩
     have Ch : Bx w8 (w6.heap.size) 34 #[.bool C5, .slice C2 C4 C3, .slice Bz C1 C0] := by rw [hW]; exact B7.set3
     replace hs := hs.trans B9
     replace B3 := hG.bx B3 (notMem1 (by omega))
     replace B0 := hG.bx B0 (notMem1 (by omega))
     replace B4 := hG.bx B4 (notMem1 (by omega))
     replace B7 := Ch
     clear Ch
     replace h4 := h4.keep hk
     replace h5 := h5.keep hk
     replace h6 := h6.keep hk
     replace B5 := hG.cell B5 (notMem1 (by dsimp only; omega))
     replace B6 := hG.cell B6 (notMem1 (by dsimp only; omega))
     replace B1 := hG.cell B1 (notMem1 (by dsimp only; omega))
     replace B2 := hG.cell B2 (notMem1 (by dsimp only; omega))
     clear hW hG hk B9 Cj lx
     refine hK.out _ _ ⟨B5, B6, B1, B2⟩ (fun hH => ?_)
     clear hK K
     try simp only [LY]
     clear hH
     refine U_last (by kernel_rfl) rfl (by kernel_rfl) (fun K hK => ?_)
     go_simp
     refine hK.out _ _ ?_
     clear hK K
     intro wl hW
     rw [hW]
     clear hW wl
     try simp only [LY]
     clear B5 B6 B1 B2
     go_wp2_with fail
     go_meet
     exact ⟨w6.heap.size, _, _, _, _, _, _, _, rfl, rfl, (by first | exact Cu | omega), (by omega), (by omega), (by omega), B7, hs, B3, B0, B4, h6⟩
    ·clear hH
     go_simp
     generalize hWn : (w5.alloc (.cells #[.bool false, .slice none 0 0, .slice none 0 0] 34)) = w6
     have hb : Below w5.heap.size w5 w6 := by rw [← hWn]; exact (Below.refl _ _).alloc (Nat.le_refl _) _
     have B7 : Bx w6 (w5.heap.size) 34 #[.bool false, .slice none 0 0, .slice none 0 0] := by rw [← hWn]; exact Bx.new _ _ _
     have Cs : w.heap.size ≠ w5.heap.size := by have := B3.lt; omega
     have C7 : w.heap.size + 1 ≠ w5.heap.size := by have := B0.lt; omega
     have Cy : w.heap.size + 1 + 1 ≠ w5.heap.size := by have := B4.lt; omega
     have Cu : w2.heap.size ≤ w5.heap.size := hs.size
     replace hs := bStep hs hb
     replace B3 := B3.mono hb
     replace B0 := B0.mono hb
     replace B4 := B4.mono hb
     replace h4 := h4.mono hb
     replace h5 := h5.mono hb
     replace B5 := cellK B5 hb
     replace B6 := cellK B6 hb
     replace B1 := cellK B1 hb
     replace B2 := cellK B2 hb
     clear hb hWn
     refine hK.out _ _ ⟨B5, B6, B1, B2⟩ (fun hH => ?_)
     clear hK K
     try simp only [LY]
     clear hH
     refine U_one (i := 5) (by kernel_rfl) rfl (fun K hK => ?_)
     go_simp
     (with_reducible refine (al_LimitA _ (rowsJ PC.kept _ _ _ Cp.out hs) h4 su h5 sc HZ.out hA D1.out D0.out).mono ?_)
     rintro e w7 ⟨_, rfl, h6, hb⟩
     obtain ⟨C5, C2, C4, C3, Bz, C1, C0, rfl⟩ := h6.shape
     replace hs := bStep hs hb
     replace B3 := B3.mono hb
     replace B0 := B0.mono hb
     replace B4 := B4.mono hb
     replace B7 := B7.mono hb
     replace h4 := h4.mono hb
     replace h5 := h5.mono hb
     replace B5 := cellK B5 hb
     replace B6 := cellK B6 hb
     replace B1 := cellK B1 hb
     replace B2 := cellK B2 hb
     clear hb
     try go_wp2_with fail
     refine hK.out _ _ ⟨B5, B6, B1, B2⟩ (fun hH => ?_)
     clear hK K
     try simp only [LY]
     refine U_tt 6 ?_ ?_ hH ?_
     rotate_left
     ·(intro w Ba; (try dsimp only at Ba); go_simp; try with_reducible rfl)
     try simp only [LY]
     refine U_tt 7 ?_ ?_ hH ?_
     rotate_left
     ·(intro w Ba; (try dsimp only at Ba); go_simp; try with_reducible rfl)
     try simp only [LY]
     refine U_tt 8 ?_ ?_ hH ?_
     rotate_left
     ·(intro w Ba; (try dsimp only at Ba); go_simp; try with_reducible rfl)
     try simp only [LY]
     clear hH
     have D8 : w7.cell? ⟨w5.heap.size, 0, none⟩ = some (.bool false) := B7.at 0 rfl
     have D9 : w7.cell? ⟨w5.heap.size, 1, none⟩ = some (.slice none 0 0) := B7.at 1 rfl
     have Da : w7.cell? ⟨w5.heap.size, 2, none⟩ = some (.slice none 0 0) := B7.at 2 rfl
     have fx := B7.free
     have Lx : w5.heap.size < w7.heap.size := B7.lt
     refine U_one (i := 10) (by kernel_rfl) rfl (fun K hK => ?_)
     go_simp
     generalize hW_ : (((w7.setCell ⟨w5.heap.size, 0, none⟩ (.bool C5)).setCell ⟨w5.heap.size, 1, none⟩ (.slice C2 C4 C3)).setCell ⟨w5.heap.size, 2, none⟩ (.slice Bz C1 C0)) = w8
     have hW := hW_.symm
     clear hW_
     have hG : Gr [w5.heap.size] w7 w8 := by rw [hW]; exact (Gr.refl _ _).set.set.set
     have Cj := hs.size
     have lx := B7.lt
     have B9 : Below w2.heap.size w7 w8 := hG.below1 hs.size (by first | omega | assumption)
     have hk : KeepD w7 w8 := hG.keep ⟨⟨_, B7.ty, by decide⟩, True.intro⟩
     have Ch : Bx w8 (w5.heap.size) 34 #[.bool C5, .slice C2 C4 C3, .slice Bz C1 C0] := by rw [hW]; exact B7.set3
     replace hs := hs.trans B9
     replace B3 := hG.bx B3 (notMem1 (by omega))
     replace B0 := hG.bx B0 (notMem1 (by omega))
     replace B4 := hG.bx B4 (notMem1 (by omega))
     replace B7 := Ch
     clear Ch
     replace h4 := h4.keep hk
     replace h5 := h5.keep hk
     replace h6 := h6.keep hk
     replace B5 := hG.cell B5 (notMem1 (by dsimp only; omega))
     replace B6 := hG.cell B6 (notMem1 (by dsimp only; omega))
     replace B1 := hG.cell B1 (notMem1 (by dsimp only; omega))
     replace B2 := hG.cell B2 (notMem1 (by dsimp only; omega))
     clear hW hG hk B9 Cj lx
     refine hK.out _ _ ⟨B5, B6, B1, B2⟩ (fun hH => ?_)
     clear hK K
     try simp only [LY]
     clear hH
     refine U_last (by kernel_rfl) rfl (by kernel_rfl) (fun K hK => ?_)
     go_simp
     refine hK.out _ _ ?_
     clear hK K
     intro wl hW
     rw [hW]
     clear hW wl
     try simp only [LY]
     clear B5 B6 B1 B2
     go_wp2_with fail
     go_meet
     exact ⟨w5.heap.size, _, _, _, _, _, _, _, rfl, rfl, (by first | exact Cu | omega), (by omega), (by omega), (by omega), B7, hs, B3, B0, B4, h6⟩
   ·clear hH
    go_simp
    generalize hWn : (w4.alloc (.cells #[.bool false, .slice none 0 0, .slice none 0 0] 34)) = w5
    have hb : Below w4.heap.size w4 w5 := by rw [← hWn]; exact (Below.refl _ _).alloc (Nat.le_refl _) _
    have B7 : Bx w5 (w4.heap.size) 34 #[.bool false, .slice none 0 0, .slice none 0 0] := by rw [← hWn]; exact Bx.new _ _ _
    have Cs : w.heap.size ≠ w4.heap.size := by have := B3.lt; omega
    have C7 : w.heap.size + 1 ≠ w4.heap.size := by have := B0.lt; omega
    have Cy : w.heap.size + 1 + 1 ≠ w4.heap.size := by have := B4.lt; omega
    have Cu : w2.heap.size ≤ w4.heap.size := hs.size
    replace hs := bStep hs hb
    replace B3 := B3.mono hb
    replace B0 := B0.mono hb
    replace B4 := B4.mono hb
    replace h4 := h4.mono hb
    replace B5 := cellK B5 hb
    replace B6 := cellK B6 hb
    replace B1 := cellK B1 hb
    replace B2 := cellK B2 hb
    clear hb hWn
    refine hK.out _ _ ⟨B5, B6, B1, B2⟩ (fun hH => ?_)
    clear hK K
    try simp only [LY]
    clear hH
    refine U_one (i := 4) (by kernel_rfl) rfl (fun K hK => ?_)
    go_simp
    (with_reducible refine (l1_OfM _ O2.out HC.out).mono ?_)
    rintro e w6 ⟨_, rfl, h5, hb⟩
    obtain ⟨sh5, ah5, nh5, ch5, Ah5, Nh5, Ch5, rfl⟩ := h5.shape
    replace hs := bStep hs hb
    replace B3 := B3.mono hb
    replace B0 := B0.mono hb
    replace B4 := B4.mono hb
    replace B7 := B7.mono hb
    replace h4 := h4.mono hb
    replace B5 := cellK B5 hb
    replace B6 := cellK B6 hb
    replace B1 := cellK B1 hb
    replace B2 := cellK B2 hb
    clear hb
    try go_wp2_with fail
    refine hK.out _ _ ⟨B5, B6, B1, B2⟩ (fun hH => ?_)
    clear hK K
    try simp only [LY]
    clear hH
    refine U_one (i := 5) (by kernel_rfl) rfl (fun K hK => ?_)
    go_simp
    (with_reducible refine (al_LimitA _ (rowsJ PC.kept _ _ _ Cp.out hs) h4 su h5 sc HZ.out hA D1.out D0.out).mono ?_)
    rintro e w7 ⟨_, rfl, h6, hb⟩
    obtain ⟨C5, C2, C4, C3, Bz, C1, C0, rfl⟩ := h6.shape
    replace hs := bStep hs hb
    replace B3 := B3.mono hb
    replace B0 := B0.mono hb
    replace B4 := B4.mono hb
    replace B7 := B7.mono hb
    replace h4 := h4.mono hb
    replace h5 := h5.mono hb
    replace B5 := cellK B5 hb
    replace B6 := cellK B6 hb
    replace B1 := cellK B1 hb
    replace B2 := cellK B2 hb
    clear hb
    try go_wp2_with fail
    refine hK.out _ _ ⟨B5, B6, B1, B2⟩ (fun hH => ?_)
    clear hK K
    try simp only [LY]
    refine U_tt 6 ?_ ?_ hH ?_
    rotate_left
    ·(intro w Ba; (try dsimp only at Ba); go_simp; try with_reducible rfl)
    try simp only [LY]
    refine U_tt 7 ?_ ?_ hH ?_
    rotate_left
    ·(intro w Ba; (try dsimp only at Ba); go_simp; try with_reducible rfl)
    try simp only [LY]
    refine U_tt 8 ?_ ?_ hH ?_
    rotate_left
    ·(intro w Ba; (try dsimp only at Ba); go_simp; try with_reducible rfl)
    try simp only [LY]
    clear hH
    have D8 : w7.cell? ⟨w4.heap.size, 0, none⟩ = some (.bool false) := B7.at 0 rfl
    have D9 : w7.cell? ⟨w4.heap.size, 1, none⟩ = some (.slice none 0 0) := B7.at 1 rfl
    have Da : w7.cell? ⟨w4.heap.size, 2, none⟩ = some (.slice none 0 0) := B7.at 2 rfl
    have fx := B7.free
    have Lx : w4.heap.size < w7.heap.size := B7.lt
    refine U_one (i := 10) (by kernel_rfl) rfl (fun K hK => ?_)
    go_simp
    generalize hW_ : (((w7.setCell ⟨w4.heap.size, 0, none⟩ (.bool C5)).setCell ⟨w4.heap.size, 1, none⟩ (.slice C2 C4 C3)).setCell ⟨w4.heap.size, 2, none⟩ (.slice Bz C1 C0)) = w8
    have hW := hW_.symm
    clear hW_
    have hG : Gr [w4.heap.size] w7 w8 := by rw [hW]; exact (Gr.refl _ _).set.set.set
    have Cj := hs.size
    have lx := B7.lt
    have B9 : Below w2.heap.size w7 w8 := hG.below1 hs.size (by first | omega | assumption)
    have hk : KeepD w7 w8 := hG.keep ⟨⟨_, B7.ty, by decide⟩, True.intro⟩
    have Ch : Bx w8 (w4.heap.size) 34 #[.bool C5, .slice C2 C4 C3, .slice Bz C1 C0] := by rw [hW]; exact B7.set3
    replace hs := hs.trans B9
    replace B3 := hG.bx B3 (notMem1 (by omega))
    replace B0 := hG.bx B0 (notMem1 (by omega))
    replace B4 := hG.bx B4 (notMem1 (by omega))
    replace B7 := Ch
    clear Ch
    replace h4 := h4.keep hk
    replace h5 := h5.keep hk
    replace h6 := h6.keep hk
    replace B5 := hG.cell B5 (notMem1 (by dsimp only; omega))
    replace B6 := hG.cell B6 (notMem1 (by dsimp only; omega))
    replace B1 := hG.cell B1 (notMem1 (by dsimp only; omega))
    replace B2 := hG.cell B2 (notMem1 (by dsimp only; omega))
    clear hW hG hk B9 Cj lx
    refine hK.out _ _ ⟨B5, B6, B1, B2⟩ (fun hH => ?_)
    clear hK K
    try simp only [LY]
    clear hH
    refine U_last (by kernel_rfl) rfl (by kernel_rfl) (fun K hK => ?_)
    go_simp
    refine hK.out _ _ ?_
    clear hK K
    intro wl hW
    rw [hW]
    clear hW wl
    try simp only [LY]
    clear B5 B6 B1 B2
    go_wp2_with fail
    go_meet
    exact ⟨w4.heap.size, _, _, _, _, _, _, _, rfl, rfl, (by first | exact Cu | omega), (by omega), (by omega), (by omega), B7, hs, B3, B0, B4, h6⟩
  ·clear hH
   go_simp
   generalize hWn : (w3.alloc (.cells #[.bool false, .slice none 0 0, .slice none 0 0] 34)) = w4
   have hb : Below w3.heap.size w3 w4 := by rw [← hWn]; exact (Below.refl _ _).alloc (Nat.le_refl _) _
   have B7 : Bx w4 (w3.heap.size) 34 #[.bool false, .slice none 0 0, .slice none 0 0] := by rw [← hWn]; exact Bx.new _ _ _
   have Cs : w.heap.size ≠ w3.heap.size := by have := B3.lt; omega
   have C7 : w.heap.size + 1 ≠ w3.heap.size := by have := B0.lt; omega
   have Cy : w.heap.size + 1 + 1 ≠ w3.heap.size := by have := B4.lt; omega
   have Cu : w2.heap.size ≤ w3.heap.size := hs.size
   replace hs := bStep hs hb
   replace B3 := B3.mono hb
   replace B0 := B0.mono hb
   replace B4 := B4.mono hb
   replace B5 := cellK B5 hb
   replace B6 := cellK B6 hb
   replace B1 := cellK B1 hb
   replace B2 := cellK B2 hb
   clear hb hWn
   refine hK.out _ _ ⟨B5, B6, B1, B2⟩ (fun hH => ?_)
   clear hK K
   try simp only [LY]
   clear hH
   refine U_one (i := 2) (by kernel_rfl) rfl (fun K hK => ?_)
   go_simp
   (with_reducible refine (l1_OfM _ O1.out HU.out).mono ?_)
   rintro e w5 ⟨_, rfl, h4, hb⟩
   obtain ⟨sh4, ah4, nh4, ch4, Ah4, Nh4, Ch4, rfl⟩ := h4.shape
   replace hs := bStep hs hb
   replace B3 := B3.mono hb
   replace B0 := B0.mono hb
   replace B4 := B4.mono hb
   replace B7 := B7.mono hb
   replace B5 := cellK B5 hb
   replace B6 := cellK B6 hb
   replace B1 := cellK B1 hb
   replace B2 := cellK B2 hb
   clear hb
   try go_wp2_with fail
   refine hK.out _ _ ⟨B5, B6, B1, B2⟩ (fun hH => ?_)
   clear hK K
   try simp only [LY]
   clear hH
   refine U_one (i := 4) (by kernel_rfl) rfl (fun K hK => ?_)
   go_simp
   (with_reducible refine (l1_OfM _ O2.out HC.out).mono ?_)
   rintro e w6 ⟨_, rfl, h5, hb⟩
   obtain ⟨sh5, ah5, nh5, ch5, Ah5, Nh5, Ch5, rfl⟩ := h5.shape
   replace hs := bStep hs hb
   replace B3 := B3.mono hb
   replace B0 := B0.mono hb
   replace B4 := B4.mono hb
   replace B7 := B7.mono hb
   replace h4 := h4.mono hb
   replace B5 := cellK B5 hb
   replace B6 := cellK B6 hb
   replace B1 := cellK B1 hb
   replace B2 := cellK B2 hb
   clear hb
   try go_wp2_with fail
   refine hK.out _ _ ⟨B5, B6, B1, B2⟩ (fun hH => ?_)
   clear hK K
   try simp only [LY]
   clear hH
   refine U_one (i := 5) (by kernel_rfl) rfl (fun K hK => ?_)
   go_simp
   (with_reducible refine (al_LimitA _ (rowsJ PC.kept _ _ _ Cp.out hs) h4 su h5 sc HZ.out hA D1.out D0.out).mono ?_)
   rintro e w7 ⟨_, rfl, h6, hb⟩
   obtain ⟨C5, C2, C4, C3, Bz, C1, C0, rfl⟩ := h6.shape
   replace hs := bStep hs hb
   replace B3 := B3.mono hb
   replace B0 := B0.mono hb
   replace B4 := B4.mono hb
   replace B7 := B7.mono hb
   replace h4 := h4.mono hb
   replace h5 := h5.mono hb
   replace B5 := cellK B5 hb
   replace B6 := cellK B6 hb
   replace B1 := cellK B1 hb
   replace B2 := cellK B2 hb
   clear hb
   try go_wp2_with fail
   refine hK.out _ _ ⟨B5, B6, B1, B2⟩ (fun hH => ?_)
   clear hK K
   try simp only [LY]
   refine U_tt 6 ?_ ?_ hH ?_
   rotate_left
   ·(intro w Ba; (try dsimp only at Ba); go_simp; try with_reducible rfl)
   try simp only [LY]
   refine U_tt 7 ?_ ?_ hH ?_
   rotate_left
   ·(intro w Ba; (try dsimp only at Ba); go_simp; try with_reducible rfl)
   try simp only [LY]
   refine U_tt 8 ?_ ?_ hH ?_
   rotate_left
   ·(intro w Ba; (try dsimp only at Ba); go_simp; try with_reducible rfl)
   try simp only [LY]
   clear hH
   have D8 : w7.cell? ⟨w3.heap.size, 0, none⟩ = some (.bool false) := B7.at 0 rfl
   have D9 : w7.cell? ⟨w3.heap.size, 1, none⟩ = some (.slice none 0 0) := B7.at 1 rfl
   have Da : w7.cell? ⟨w3.heap.size, 2, none⟩ = some (.slice none 0 0) := B7.at 2 rfl
   have fx := B7.free
   have Lx : w3.heap.size < w7.heap.size := B7.lt
   refine U_one (i := 10) (by kernel_rfl) rfl (fun K hK => ?_)
   go_simp
   generalize hW_ : (((w7.setCell ⟨w3.heap.size, 0, none⟩ (.bool C5)).setCell ⟨w3.heap.size, 1, none⟩ (.slice C2 C4 C3)).setCell ⟨w3.heap.size, 2, none⟩ (.slice Bz C1 C0)) = w8
   have hW := hW_.symm
   clear hW_
   have hG : Gr [w3.heap.size] w7 w8 := by rw [hW]; exact (Gr.refl _ _).set.set.set
   have Cj := hs.size
   have lx := B7.lt
   have B9 : Below w2.heap.size w7 w8 := hG.below1 hs.size (by first | omega | assumption)
   have hk : KeepD w7 w8 := hG.keep ⟨⟨_, B7.ty, by decide⟩, True.intro⟩
   have Ch : Bx w8 (w3.heap.size) 34 #[.bool C5, .slice C2 C4 C3, .slice Bz C1 C0] := by rw [hW]; exact B7.set3
   replace hs := hs.trans B9
   replace B3 := hG.bx B3 (notMem1 (by omega))
   replace B0 := hG.bx B0 (notMem1 (by omega))
   replace B4 := hG.bx B4 (notMem1 (by omega))
   replace B7 := Ch
   clear Ch
   replace h4 := h4.keep hk
   replace h5 := h5.keep hk
   replace h6 := h6.keep hk
   replace B5 := hG.cell B5 (notMem1 (by dsimp only; omega))
   replace B6 := hG.cell B6 (notMem1 (by dsimp only; omega))
   replace B1 := hG.cell B1 (notMem1 (by dsimp only; omega))
   replace B2 := hG.cell B2 (notMem1 (by dsimp only; omega))
   clear hW hG hk B9 Cj lx
   refine hK.out _ _ ⟨B5, B6, B1, B2⟩ (fun hH => ?_)
   clear hK K
   try simp only [LY]
   clear hH
   refine U_last (by kernel_rfl) rfl (by kernel_rfl) (fun K hK => ?_)
   go_simp
   refine hK.out _ _ ?_
   clear hK K
   intro wl hW
   rw [hW]
   clear hW wl
   try simp only [LY]
   clear B5 B6 B1 B2
   go_wp2_with fail
   go_meet
   exact ⟨w3.heap.size, _, _, _, _, _, _, _, rfl, rfl, (by first | exact Cu | omega), (by omega), (by omega), (by omega), B7, hs, B3, B0, B4, h6⟩
 clear hs B3 B0 B4
 obtain ⟨gx, C5, C2, C4, C3, Bz, C1, C0, rfl, rfl, hg_x, J7, Dr, Jb, B7, hs, B3, B0, B4, h6⟩ := hcut
 go_upto_region 5 with fail
 go_cut [13, 14] (fun kv0 kx0 wz => ∃ gy Cg Cc Cf Cd C9 Cb Ca, kv0 = .pointer (some ⟨gy, 0, none⟩) ∧ kx0 = .int .i64 le ∧ w2.heap.size ≤ gy ∧ gy ≠ w.heap.size ∧ gy ≠ (w.heap.size + 1) ∧ gy ≠ (w.heap.size + 1 + 1) ∧ gy ≠ gx ∧ Bx wz gy 41 #[.bool Cg, .slice Cc Cf Cd, .slice C9 Cb Ca] ∧ Below w2.heap.size w2 wz ∧ Bx wz (w.heap.size) 24 #[.int .i64 n1, .int .i64 d1] ∧ Bx wz (w.heap.size + 1) 24 #[.int .i64 n2, .int .i64 d2] ∧ Bx wz (w.heap.size + 1 + 1) 24 #[.int .i64 n3, .int .i64 d3] ∧ Bx wz (gx) 34 #[.bool C5, .slice C2 C4 C3, .slice Bz C1 C0] ∧ PV wz (.agg #[.bool C5, .slice C2 C4 C3, .slice Bz C1 C0]) (lv) ∧ RV wz (.agg #[.bool Cg, .slice Cc Cf Cd, .slice C9 Cb Ca]) (lv))
 case first => as_aux_lemma =>
  refine U_region (S := fun w' => w'.cell? ⟨w.heap.size, 0, none⟩ = some (.int .i64 n1) ∧ w'.cell? ⟨w.heap.size, 1, none⟩ = some (.int .i64 d1) ∧ w'.cell? ⟨w.heap.size + 1, 0, none⟩ = some (.int .i64 n2) ∧ w'.cell? ⟨w.heap.size + 1, 1, none⟩ = some (.int .i64 d2)) (by kernel_rfl) 11 ?_
  refine AnyU.abs ?_
  intro w3 hW
  have hb : Below wc.heap.size wc w3 := by rw [hW]; exact bDrew _
  replace hs := bStep hs hb
  replace B3 := B3.mono hb
  replace B0 := B0.mono hb
  replace B4 := B4.mono hb
  replace B7 := B7.mono hb
  replace h6 := h6.mono hb
  clear hb hW
  have B5 : w3.cell? ⟨w.heap.size, 0, none⟩ = some (.int .i64 n1) := B3.at 0 rfl
  have B6 : w3.cell? ⟨w.heap.size, 1, none⟩ = some (.int .i64 d1) := B3.at 1 rfl
  have B1 : w3.cell? ⟨w.heap.size + 1, 0, none⟩ = some (.int .i64 n2) := B0.at 0 rfl
  have B2 : w3.cell? ⟨w.heap.size + 1, 1, none⟩ = some (.int .i64 d2) := B0.at 1 rfl
  have hH := (show w3.cell? ⟨w.heap.size, 0, none⟩ = some (.int .i64 n1) ∧ w3.cell? ⟨w.heap.size, 1, none⟩ = some (.int .i64 d1) ∧ w3.cell? ⟨w.heap.size + 1, 0, none⟩ = some (.int .i64 n2) ∧ w3.cell? ⟨w.heap.size + 1, 1, none⟩ = some (.int .i64 d2) from ⟨B5, B6, B1, B2⟩)
  refine U_tt 0 ?_ ?_ hH ?_
  rotate_left
  ·(intro w Ba; (try dsimp only at Ba); go_simp; try with_reducible rfl)
  try simp only [LY]
  refine U_tt 1 ?_ ?_ hH ?_
  rotate_left
  ·(intro w Ba; (try dsimp only at Ba); go_simp; try with_reducible rfl)
  try simp only [LY]
  refine U_tt 3 ?_ ?_ hH ?_
  rotate_left
  ·(intro w Ba; (try dsimp only at Ba); go_simp; try with_reducible rfl)
  try simp only [LY]
  refine U_two (i := 2) (j := 9) (by kernel_rfl) rfl rfl (fun K hK => ?_) (fun K hK => ?_)
  ·clear hH
   go_simp
   (with_reducible refine (r1_OfM _ O1.out HU.out).mono ?_)
   rintro e w4 ⟨_, rfl, h7, hb⟩
   obtain ⟨sh7, ah7, nh7, ch7, Ah7, Nh7, Ch7, rfl⟩ := h7.shape
   replace hs := bStep hs hb
   replace B3 := B3.mono hb
   replace B0 := B0.mono hb
   replace B4 := B4.mono hb
   replace B7 := B7.mono hb
   replace h6 := h6.mono hb
   replace B5 := cellK B5 hb
   replace B6 := cellK B6 hb
   replace B1 := cellK B1 hb
   replace B2 := cellK B2 hb
   clear hb
   try go_wp2_with fail
   refine hK.out _ _ ⟨B5, B6, B1, B2⟩ (fun hH => ?_)
   clear hK K
   try simp only [LY]
   refine U_two (i := 4) (j := 9) (by kernel_rfl) rfl rfl (fun K hK => ?_) (fun K hK => ?_)
   ·clear hH
    go_simp
    (with_reducible refine (r1_OfM _ O2.out HC.out).mono ?_)
    rintro e w5 ⟨_, rfl, h8, hb⟩
    obtain ⟨sh8, ah8, nh8, ch8, Ah8, Nh8, Ch8, rfl⟩ := h8.shape
    replace hs := bStep hs hb
    replace B3 := B3.mono hb
    replace B0 := B0.mono hb
    replace B4 := B4.mono hb
    replace B7 := B7.mono hb
    replace h6 := h6.mono hb
    replace h7 := h7.mono hb
    replace B5 := cellK B5 hb
    replace B6 := cellK B6 hb
    replace B1 := cellK B1 hb
    replace B2 := cellK B2 hb
    clear hb
    try go_wp2_with fail
    refine hK.out _ _ ⟨B5, B6, B1, B2⟩ (fun hH => ?_)
    clear hK K
    try simp only [LY]
    refine U_two (i := 5) (j := 9) (by kernel_rfl) rfl rfl (fun K hK => ?_) (fun K hK => ?_)
    ·clear hH
     go_simp
     (with_reducible refine (r8_LimitA _ (rowsJ RC.kept _ _ _ Cq.out hs) h7 su h8 sc HZ.out hA D1.out D0.out).mono ?_)
     rintro e w6 ⟨_, rfl, h9, hb⟩
     obtain ⟨Cg, Cc, Cf, Cd, C9, Cb, Ca, rfl⟩ := h9.shape
     replace hs := bStep hs hb
     replace B3 := B3.mono hb
     replace B0 := B0.mono hb
     replace B4 := B4.mono hb
     replace B7 := B7.mono hb
     replace h6 := h6.mono hb
     replace h7 := h7.mono hb
     replace h8 := h8.mono hb
     replace B5 := cellK B5 hb
     replace B6 := cellK B6 hb
     replace B1 := cellK B1 hb
     replace B2 := cellK B2 hb
     clear hb
     try go_wp2_with fail
     refine hK.out _ _ ⟨B5, B6, B1, B2⟩ (fun hH => ?_)
     clear hK K
     try simp only [LY]
     refine U_tt 6 ?_ ?_ hH ?_
     rotate_left
     ·(intro w Ba; (try dsimp only at Ba); go_simp; try with_reducible rfl)
     try simp only [LY]
     refine U_tt 7 ?_ ?_ hH ?_
     rotate_left
     ·(intro w Ba; (try dsimp only at Ba); go_simp; try with_reducible rfl)
     try simp only [LY]
     refine U_tt 8 ?_ ?_ hH ?_
     rotate_left
     ·(intro w Ba; (try dsimp only at Ba); go_simp; try with_reducible rfl)
     try simp only [LY]
     clear hH
     refine U_one (i := 9) (by kernel_rfl) rfl (fun K hK => ?_)
     go_simp
     generalize hWn : (w6.alloc (.cells #[.bool false, .slice none 0 0, .slice none 0 0] 41)) = w7
     have hb : Below w6.heap.size w6 w7 := by rw [← hWn]; exact (Below.refl _ _).alloc (Nat.le_refl _) _
     have B8 : Bx w7 (w6.heap.size) 41 #[.bool false, .slice none 0 0, .slice none 0 0] := by rw [← hWn]; exact Bx.new _ _ _
     have Ct : w.heap.size ≠ w6.heap.size := by have := B3.lt; omega
     have C8 : w.heap.size + 1 ≠ w6.heap.size := by have := B0.lt; omega
     have Cz : w.heap.size + 1 + 1 ≠ w6.heap.size := by have := B4.lt; omega
     have Dl : gx ≠ w6.heap.size := by have := B7.lt; omega
     have Cv : w2.heap.size ≤ w6.heap.size := hs.size
     replace hs := bStep hs hb
     replace B3 := B3.mono hb
     replace B0 := B0.mono hb
     replace B4 := B4.mono hb
     replace B7 := B7.mono hb
     replace h6 := h6.mono hb
     replace h7 := h7.mono hb
     replace h8 := h8.mono hb
     replace h9 := h9.mono hb
     replace B5 := cellK B5 hb
     replace B6 := cellK B6 hb
     replace B1 := cellK B1 hb
     replace B2 := cellK B2 hb
     clear hb hWn
     refine hK.out _ _ ⟨B5, B6, B1, B2⟩ (fun hH => ?_)
     clear hK K
     try simp only [LY]
     clear hH
     have Db : w7.cell? ⟨w6.heap.size, 0, none⟩ = some (.bool false) := B8.at 0 rfl
     have Dc : w7.cell? ⟨w6.heap.size, 1, none⟩ = some (.slice none 0 0) := B8.at 1 rfl
     have Dd : w7.cell? ⟨w6.heap.size, 2, none⟩ = some (.slice none 0 0) := B8.at 2 rfl
     have fy := B8.free
     have Ly : w6.heap.size < w7.heap.size := B8.lt
     refine U_one (i := 10) (by kernel_rfl) rfl (fun K hK => ?_)
     go_simp
     generalize hW_ : (((w7.setCell ⟨w6.heap.size, 0, none⟩ (.bool Cg)).setCell ⟨w6.heap.size, 1, none⟩ (.slice Cc Cf Cd)).setCell ⟨w6.heap.size, 2, none⟩ (.slice C9 Cb Ca)) = w8
     have hW := hW_.symm
     clear hW_
     have hG : Gr [w6.heap.size] w7 w8 := by rw [hW]; exact (Gr.refl _ _).set.set.set
     have Cj := hs.size
     have ly := B8.lt
     have B9 : Below w2.heap.size w7 w8 := hG.below1 hs.size (by first | omega | assumption)
     have hk : KeepD w7 w8 := hG.keep ⟨⟨_, B8.ty, by decide⟩, True.intro⟩
     have Ci : Bx w8 (w6.heap.size) 41 #[.bool Cg, .slice Cc Cf Cd, .slice C9 Cb Ca] := by rw [hW]; exact B8.set3
     replace hs := hs.trans B9
     replace B3 := hG.bx B3 (notMem1 (by omega))
     replace B0 := hG.bx B0 (notMem1 (by omega))
     replace B4 := hG.bx B4 (notMem1 (by omega))
     replace B7 := hG.bx B7 (notMem1 (by omega))
     replace B8 := Ci
     clear Ci
     replace h6 := h6.keep hk
     replace h7 := h7.keep hk
     replace h8 := h8.keep hk
     replace h9 := h9.keep hk
     replace B5 := hG.cell B5 (notMem1 (by dsimp only; omega))
     replace B6 := hG.cell B6 (notMem1 (by dsimp only; omega))
     replace B1 := hG.cell B1 (notMem1 (by dsimp only; omega))
     replace B2 := hG.cell B2 (notMem1 (by dsimp only; omega))
     clear hW hG hk B9 Cj ly
     refine hK.out _ _ ⟨B5, B6, B1, B2⟩ (fun hH => ?_)
     clear hK K
     try simp only [LY]
     clear hH
     refine U_last (by kernel_rfl) rfl (by kernel_rfl) (fun K hK => ?_)
     go_simp
     refine hK.out _ _ ?_
     clear hK K
     intro wl hW
     rw [hW]
     clear hW wl
     try simp only [LY]
     clear B5 B6 B1 B2
     go_wp2_with fail
     go_meet
     exact ⟨w6.heap.size, _, _, _, _, _, _, _, rfl, rfl, (by first | exact Cv | omega), (by omega), (by omega), (by omega), (by omega), B8, hs, B3, B0, B4, B7, h6, h9⟩
    ·clear hH
     go_simp
     generalize hWn : (w5.alloc (.cells #[.bool false, .slice none 0 0, .slice none 0 0] 41)) = w6
     have hb : Below w5.heap.size w5 w6 := by rw [← hWn]; exact (Below.refl _ _).alloc (Nat.le_refl _) _
     have B8 : Bx w6 (w5.heap.size) 41 #[.bool false, .slice none 0 0, .slice none 0 0] := by rw [← hWn]; exact Bx.new _ _ _
     have Ct : w.heap.size ≠ w5.heap.size := by have := B3.lt; omega
     have C8 : w.heap.size + 1 ≠ w5.heap.size := by have := B0.lt; omega
     have Cz : w.heap.size + 1 + 1 ≠ w5.heap.size := by have := B4.lt; omega
     have Dl : gx ≠ w5.heap.size := by have := B7.lt; omega
     have Cv : w2.heap.size ≤ w5.heap.size := hs.size
     replace hs := bStep hs hb
     replace B3 := B3.mono hb
     replace B0 := B0.mono hb
     replace B4 := B4.mono hb
     replace B7 := B7.mono hb
     replace h6 := h6.mono hb
     replace h7 := h7.mono hb
     replace h8 := h8.mono hb
     replace B5 := cellK B5 hb
     replace B6 := cellK B6 hb
     replace B1 := cellK B1 hb
     replace B2 := cellK B2 hb
     clear hb hWn
     refine hK.out _ _ ⟨B5, B6, B1, B2⟩ (fun hH => ?_)
     clear hK K
     try simp only [LY]
     clear hH
     refine U_one (i := 5) (by kernel_rfl) rfl (fun K hK => ?_)
     go_simp
     (with_reducible refine (r8_LimitA _ (rowsJ RC.kept _ _ _ Cq.out hs) h7 su h8 sc HZ.out hA D1.out D0.out).mono ?_)
     rintro e w7 ⟨_, rfl, h9, hb⟩
     obtain ⟨Cg, Cc, Cf, Cd, C9, Cb, Ca, rfl⟩ := h9.shape
     replace hs := bStep hs hb
     replace B3 := B3.mono hb
     replace B0 := B0.mono hb
     replace B4 := B4.mono hb
     replace B7 := B7.mono hb
     replace B8 := B8.mono hb
     replace h6 := h6.mono hb
     replace h7 := h7.mono hb
     replace h8 := h8.mono hb
     replace B5 := cellK B5 hb
     replace B6 := cellK B6 hb
     replace B1 := cellK B1 hb
     replace B2 := cellK B2 hb
     clear hb
     try go_wp2_with fail
     refine hK.out _ _ ⟨B5, B6, B1, B2⟩ (fun hH => ?_)
     clear hK K
     try simp only [LY]
     refine U_tt 6 ?_ ?_ hH ?_
     rotate_left
     ·(intro w Ba; (try dsimp only at Ba); go_simp; try with_reducible rfl)
     try simp only [LY]
     refine U_tt 7 ?_ ?_ hH ?_
     rotate_left
     ·(intro w Ba; (try dsimp only at Ba); go_simp; try with_reducible rfl)
     try simp only [LY]
     refine U_tt 8 ?_ ?_ hH ?_
     rotate_left
     ·(intro w Ba; (try dsimp only at Ba); go_simp; try with_reducible rfl)
     try simp only [LY]
     clear hH
     have Db : w7.cell? ⟨w5.heap.size, 0, none⟩ = some (.bool false) := B8.at 0 rfl
     have Dc : w7.cell? ⟨w5.heap.size, 1, none⟩ = some (.slice none 0 0) := B8.at 1 rfl
     have Dd : w7.cell? ⟨w5.heap.size, 2, none⟩ = some (.slice none 0 0) := B8.at 2 rfl
     have fy := B8.free
     have Ly : w5.heap.size < w7.heap.size := B8.lt
     refine U_one (i := 10) (by kernel_rfl) rfl (fun K hK => ?_)
     go_simp
     generalize hW_ : (((w7.setCell ⟨w5.heap.size, 0, none⟩ (.bool Cg)).setCell ⟨w5.heap.size, 1, none⟩ (.slice Cc Cf Cd)).setCell ⟨w5.heap.size, 2, none⟩ (.slice C9 Cb Ca)) = w8
     have hW := hW_.symm
     clear hW_
     have hG : Gr [w5.heap.size] w7 w8 := by rw [hW]; exact (Gr.refl _ _).set.set.set
     have Cj := hs.size
     have ly := B8.lt
     have B9 : Below w2.heap.size w7 w8 := hG.below1 hs.size (by first | omega | assumption)
     have hk : KeepD w7 w8 := hG.keep ⟨⟨_, B8.ty, by decide⟩, True.intro⟩
     have Ci : Bx w8 (w5.heap.size) 41 #[.bool Cg, .slice Cc Cf Cd, .slice C9 Cb Ca] := by rw [hW]; exact B8.set3
     replace hs := hs.trans B9
     replace B3 := hG.bx B3 (notMem1 (by omega))
     replace B0 := hG.bx B0 (notMem1 (by omega))
     replace B4 := hG.bx B4 (notMem1 (by omega))
     replace B7 := hG.bx B7 (notMem1 (by omega))
     replace B8 := Ci
     clear Ci
     replace h6 := h6.keep hk
     replace h7 := h7.keep hk
     replace h8 := h8.keep hk
     replace h9 := h9.keep hk
     replace B5 := hG.cell B5 (notMem1 (by dsimp only; omega))
     replace B6 := hG.cell B6 (notMem1 (by dsimp only; omega))
     replace B1 := hG.cell B1 (notMem1 (by dsimp only; omega))
     replace B2 := hG.cell B2 (notMem1 (by dsimp only; omega))
     clear hW hG hk B9 Cj ly
     refine hK.out _ _ ⟨B5, B6, B1, B2⟩ (fun hH => ?_)
     clear hK K
     try simp only [LY]
     clear hH
     refine U_last (by kernel_rfl) rfl (by kernel_rfl) (fun K hK => ?_)
     go_simp
     refine hK.out _ _ ?_
     clear hK K
     intro wl hW
     rw [hW]
     clear hW wl
     try simp only [LY]
     clear B5 B6 B1 B2
     go_wp2_with fail
     go_meet
     exact ⟨w5.heap.size, _, _, _, _, _, _, _, rfl, rfl, (by first | exact Cv | omega), (by omega), (by omega), (by omega), (by omega), B8, hs, B3, B0, B4, B7, h6, h9⟩
   ·clear hH
    go_simp
    generalize hWn : (w4.alloc (.cells #[.bool false, .slice none 0 0, .slice none 0 0] 41)) = w5
    have hb : Below w4.heap.size w4 w5 := by rw [← hWn]; exact (Below.refl _ _).alloc (Nat.le_refl _) _
    have B8 : Bx w5 (w4.heap.size) 41 #[.bool false, .slice none 0 0, .slice none 0 0] := by rw [← hWn]; exact Bx.new _ _ _
    have Ct : w.heap.size ≠ w4.heap.size := by have := B3.lt; omega
    have C8 : w.heap.size + 1 ≠ w4.heap.size := by have := B0.lt; omega
    have Cz : w.heap.size + 1 + 1 ≠ w4.heap.size := by have := B4.lt; omega
    have Dl : gx ≠ w4.heap.size := by have := B7.lt; omega
    have Cv : w2.heap.size ≤ w4.heap.size := hs.size
    replace hs := bStep hs hb
    replace B3 := B3.mono hb
    replace B0 := B0.mono hb
    replace B4 := B4.mono hb
    replace B7 := B7.mono hb
    replace h6 := h6.mono hb
    replace h7 := h7.mono hb
    replace B5 := cellK B5 hb
    replace B6 := cellK B6 hb
    replace B1 := cellK B1 hb
    replace B2 := cellK B2 hb
    clear hb hWn
    refine hK.out _ _ ⟨B5, B6, B1, B2⟩ (fun hH => ?_)
    clear hK K
    try simp only [LY]
    clear hH
    refine U_one (i := 4) (by kernel_rfl) rfl (fun K hK => ?_)
    go_simp
    (with_reducible refine (r1_OfM _ O2.out HC.out).mono ?_)
    rintro e w6 ⟨_, rfl, h8, hb⟩
    obtain ⟨sh8, ah8, nh8, ch8, Ah8, Nh8, Ch8, rfl⟩ := h8.shape
    replace hs := bStep hs hb
    replace B3 := B3.mono hb
    replace B0 := B0.mono hb
    replace B4 := B4.mono hb
    replace B7 := B7.mono hb
    replace B8 := B8.mono hb
    replace h6 := h6.mono hb
    replace h7 := h7.mono hb
    replace B5 := cellK B5 hb
    replace B6 := cellK B6 hb
    replace B1 := cellK B1 hb
    replace B2 := cellK B2 hb
    clear hb
    try go_wp2_with fail
    refine hK.out _ _ ⟨B5, B6, B1, B2⟩ (fun hH => ?_)
    clear hK K
    try simp only [LY]
    clear hH
    refine U_one (i := 5) (by kernel_rfl) rfl (fun K hK => ?_)
    go_simp
    (with_reducible refine (r8_LimitA _ (rowsJ RC.kept _ _ _ Cq.out hs) h7 su h8 sc HZ.out hA D1.out D0.out).mono ?_)
    rintro e w7 ⟨_, rfl, h9, hb⟩
    obtain ⟨Cg, Cc, Cf, Cd, C9, Cb, Ca, rfl⟩ := h9.shape
    replace hs := bStep hs hb
    replace B3 := B3.mono hb
    replace B0 := B0.mono hb
    replace B4 := B4.mono hb
    replace B7 := B7.mono hb
    replace B8 := B8.mono hb
    replace h6 := h6.mono hb
    replace h7 := h7.mono hb
    replace h8 := h8.mono hb
    replace B5 := cellK B5 hb
    replace B6 := cellK B6 hb
    replace B1 := cellK B1 hb
    replace B2 := cellK B2 hb
    clear hb
    try go_wp2_with fail
    refine hK.out _ _ ⟨B5, B6, B1, B2⟩ (fun hH => ?_)
    clear hK K
    try simp only [LY]
    refine U_tt 6 ?_ ?_ hH ?_
    rotate_left
    ·(intro w Ba; (try dsimp only at Ba); go_simp; try with_reducible rfl)
    try simp only [LY]
    refine U_tt 7 ?_ ?_ hH ?_
    rotate_left
    ·(intro w Ba; (try dsimp only at Ba); go_simp; try with_reducible rfl)
    try simp only [LY]
    refine U_tt 8 ?_ ?_ hH ?_
    rotate_left
    ·(intro w Ba; (try dsimp only at Ba); go_simp; try with_reducible rfl)
    try simp only [LY]
    clear hH
    have Db : w7.cell? ⟨w4.heap.size, 0, none⟩ = some (.bool false) := B8.at 0 rfl
    have Dc : w7.cell? ⟨w4.heap.size, 1, none⟩ = some (.slice none 0 0) := B8.at 1 rfl
    have Dd : w7.cell? ⟨w4.heap.size, 2, none⟩ = some (.slice none 0 0) := B8.at 2 rfl
    have fy := B8.free
    have Ly : w4.heap.size < w7.heap.size := B8.lt
    refine U_one (i := 10) (by kernel_rfl) rfl (fun K hK => ?_)
    go_simp
    generalize hW_ : (((w7.setCell ⟨w4.heap.size, 0, none⟩ (.bool Cg)).setCell ⟨w4.heap.size, 1, none⟩ (.slice Cc Cf Cd)).setCell ⟨w4.heap.size, 2, none⟩ (.slice C9 Cb Ca)) = w8
    have hW := hW_.symm
    clear hW_
    have hG : Gr [w4.heap.size] w7 w8 := by rw [hW]; exact (Gr.refl _ _).set.set.set
    have Cj := hs.size
    have ly := B8.lt
    have B9 : Below w2.heap.size w7 w8 := hG.below1 hs.size (by first | omega | assumption)
    have hk : KeepD w7 w8 := hG.keep ⟨⟨_, B8.ty, by decide⟩, True.intro⟩
    have Ci : Bx w8 (w4.heap.size) 41 #[.bool Cg, .slice Cc Cf Cd, .slice C9 Cb Ca] := by rw [hW]; exact B8.set3
    replace hs := hs.trans B9
    replace B3 := hG.bx B3 (notMem1 (by omega))
    replace B0 := hG.bx B0 (notMem1 (by omega))
    replace B4 := hG.bx B4 (notMem1 (by omega))
    replace B7 := hG.bx B7 (notMem1 (by omega))
    replace B8 := Ci
    clear Ci
    replace h6 := h6.keep hk
    replace h7 := h7.keep hk
    replace h8 := h8.keep hk
    replace h9 := h9.keep hk
    replace B5 := hG.cell B5 (notMem1 (by dsimp only; omega))
    replace B6 := hG.cell B6 (notMem1 (by dsimp only; omega))
    replace B1 := hG.cell B1 (notMem1 (by dsimp only; omega))
    replace B2 := hG.cell B2 (notMem1 (by dsimp only; omega))
    clear hW hG hk B9 Cj ly
    refine hK.out _ _ ⟨B5, B6, B1, B2⟩ (fun hH => ?_)
    clear hK K
    try simp only [LY]
    clear hH
    refine U_last (by kernel_rfl) rfl (by kernel_rfl) (fun K hK => ?_)
    go_simp
    refine hK.out _ _ ?_
    clear hK K
    intro wl hW
    rw [hW]
    clear hW wl
    try simp only [LY]
    clear B5 B6 B1 B2
    go_wp2_with fail
    go_meet
    exact ⟨w4.heap.size, _, _, _, _, _, _, _, rfl, rfl, (by first | exact Cv | omega), (by omega), (by omega), (by omega), (by omega), B8, hs, B3, B0, B4, B7, h6, h9⟩
  ·clear hH
   go_simp
   generalize hWn : (w3.alloc (.cells #[.bool false, .slice none 0 0, .slice none 0 0] 41)) = w4
   have hb : Below w3.heap.size w3 w4 := by rw [← hWn]; exact (Below.refl _ _).alloc (Nat.le_refl _) _
   have B8 : Bx w4 (w3.heap.size) 41 #[.bool false, .slice none 0 0, .slice none 0 0] := by rw [← hWn]; exact Bx.new _ _ _
   have Ct : w.heap.size ≠ w3.heap.size := by have := B3.lt; omega
   have C8 : w.heap.size + 1 ≠ w3.heap.size := by have := B0.lt; omega
   have Cz : w.heap.size + 1 + 1 ≠ w3.heap.size := by have := B4.lt; omega
   have Dl : gx ≠ w3.heap.size := by have := B7.lt; omega
   have Cv : w2.heap.size ≤ w3.heap.size := hs.size
   replace hs := bStep hs hb
   replace B3 := B3.mono hb
   replace B0 := B0.mono hb
   replace B4 := B4.mono hb
   replace B7 := B7.mono hb
   replace h6 := h6.mono hb
   replace B5 := cellK B5 hb
   replace B6 := cellK B6 hb
   replace B1 := cellK B1 hb
   replace B2 := cellK B2 hb
   clear hb hWn
   refine hK.out _ _ ⟨B5, B6, B1, B2⟩ (fun hH => ?_)
   clear hK K
   try simp only [LY]
   clear hH
   refine U_one (i := 2) (by kernel_rfl) rfl (fun K hK => ?_)
   go_simp
   (with_reducible refine (r1_OfM _ O1.out HU.out).mono ?_)
   rintro e w5 ⟨_, rfl, h7, hb⟩
   obtain ⟨sh7, ah7, nh7, ch7, Ah7, Nh7, Ch7, rfl⟩ := h7.shape
   replace hs := bStep hs hb
   replace B3 := B3.mono hb
   replace B0 := B0.mono hb
   replace B4 := B4.mono hb
   replace B7 := B7.mono hb
   replace B8 := B8.mono hb
   replace h6 := h6.mono hb
   replace B5 := cellK B5 hb
   replace B6 := cellK B6 hb
   replace B1 := cellK B1 hb
   replace B2 := cellK B2 hb
   clear hb
   try go_wp2_with fail
   refine hK.out _ _ ⟨B5, B6, B1, B2⟩ (fun hH => ?_)
   clear hK K
   try simp only [LY]
   clear hH
   refine U_one (i := 4) (by kernel_rfl) rfl (fun K hK => ?_)
   go_simp
   (with_reducible refine (r1_OfM _ O2.out HC.out).mono ?_)
   rintro e w6 ⟨_, rfl, h8, hb⟩
   obtain ⟨sh8, ah8, nh8, ch8, Ah8, Nh8, Ch8, rfl⟩ := h8.shape
   replace hs := bStep hs hb
   replace B3 := B3.mono hb
   replace B0 := B0.mono hb
   replace B4 := B4.mono hb
   replace B7 := B7.mono hb
   replace B8 := B8.mono hb
   replace h6 := h6.mono hb
   replace h7 := h7.mono hb
   replace B5 := cellK B5 hb
   replace B6 := cellK B6 hb
   replace B1 := cellK B1 hb
   replace B2 := cellK B2 hb
   clear hb
   try go_wp2_with fail
   refine hK.out _ _ ⟨B5, B6, B1, B2⟩ (fun hH => ?_)
   clear hK K
   try simp only [LY]
   clear hH
   refine U_one (i := 5) (by kernel_rfl) rfl (fun K hK => ?_)
   go_simp
   (with_reducible refine (r8_LimitA _ (rowsJ RC.kept _ _ _ Cq.out hs) h7 su h8 sc HZ.out hA D1.out D0.out).mono ?_)
   rintro e w7 ⟨_, rfl, h9, hb⟩
   obtain ⟨Cg, Cc, Cf, Cd, C9, Cb, Ca, rfl⟩ := h9.shape
   replace hs := bStep hs hb
   replace B3 := B3.mono hb
   replace B0 := B0.mono hb
   replace B4 := B4.mono hb
   replace B7 := B7.mono hb
   replace B8 := B8.mono hb
   replace h6 := h6.mono hb
   replace h7 := h7.mono hb
   replace h8 := h8.mono hb
   replace B5 := cellK B5 hb
   replace B6 := cellK B6 hb
   replace B1 := cellK B1 hb
   replace B2 := cellK B2 hb
   clear hb
   try go_wp2_with fail
   refine hK.out _ _ ⟨B5, B6, B1, B2⟩ (fun hH => ?_)
   clear hK K
   try simp only [LY]
   refine U_tt 6 ?_ ?_ hH ?_
   rotate_left
   ·(intro w Ba; (try dsimp only at Ba); go_simp; try with_reducible rfl)
   try simp only [LY]
   refine U_tt 7 ?_ ?_ hH ?_
   rotate_left
   ·(intro w Ba; (try dsimp only at Ba); go_simp; try with_reducible rfl)
   try simp only [LY]
   refine U_tt 8 ?_ ?_ hH ?_
   rotate_left
   ·(intro w Ba; (try dsimp only at Ba); go_simp; try with_reducible rfl)
   try simp only [LY]
   clear hH
   have Db : w7.cell? ⟨w3.heap.size, 0, none⟩ = some (.bool false) := B8.at 0 rfl
   have Dc : w7.cell? ⟨w3.heap.size, 1, none⟩ = some (.slice none 0 0) := B8.at 1 rfl
   have Dd : w7.cell? ⟨w3.heap.size, 2, none⟩ = some (.slice none 0 0) := B8.at 2 rfl
   have fy := B8.free
   have Ly : w3.heap.size < w7.heap.size := B8.lt
   refine U_one (i := 10) (by kernel_rfl) rfl (fun K hK => ?_)
   go_simp
   generalize hW_ : (((w7.setCell ⟨w3.heap.size, 0, none⟩ (.bool Cg)).setCell ⟨w3.heap.size, 1, none⟩ (.slice Cc Cf Cd)).setCell ⟨w3.heap.size, 2, none⟩ (.slice C9 Cb Ca)) = w8
   have hW := hW_.symm
   clear hW_
   have hG : Gr [w3.heap.size] w7 w8 := by rw [hW]; exact (Gr.refl _ _).set.set.set
   have Cj := hs.size
   have ly := B8.lt
   have B9 : Below w2.heap.size w7 w8 := hG.below1 hs.size (by first | omega | assumption)
   have hk : KeepD w7 w8 := hG.keep ⟨⟨_, B8.ty, by decide⟩, True.intro⟩
   have Ci : Bx w8 (w3.heap.size) 41 #[.bool Cg, .slice Cc Cf Cd, .slice C9 Cb Ca] := by rw [hW]; exact B8.set3
   replace hs := hs.trans B9
   replace B3 := hG.bx B3 (notMem1 (by omega))
   replace B0 := hG.bx B0 (notMem1 (by omega))
   replace B4 := hG.bx B4 (notMem1 (by omega))
   replace B7 := hG.bx B7 (notMem1 (by omega))
   replace B8 := Ci
   clear Ci
   replace h6 := h6.keep hk
   replace h7 := h7.keep hk
   replace h8 := h8.keep hk
   replace h9 := h9.keep hk
   replace B5 := hG.cell B5 (notMem1 (by dsimp only; omega))
   replace B6 := hG.cell B6 (notMem1 (by dsimp only; omega))
   replace B1 := hG.cell B1 (notMem1 (by dsimp only; omega))
   replace B2 := hG.cell B2 (notMem1 (by dsimp only; omega))
   clear hW hG hk B9 Cj ly
   refine hK.out _ _ ⟨B5, B6, B1, B2⟩ (fun hH => ?_)
   clear hK K
   try simp only [LY]
   clear hH
   refine U_last (by kernel_rfl) rfl (by kernel_rfl) (fun K hK => ?_)
   go_simp
   refine hK.out _ _ ?_
   clear hK K
   intro wl hW
   rw [hW]
   clear hW wl
   try simp only [LY]
   clear B5 B6 B1 B2
   go_wp2_with fail
   go_meet
   exact ⟨w3.heap.size, _, _, _, _, _, _, _, rfl, rfl, (by first | exact Cv | omega), (by omega), (by omega), (by omega), (by omega), B8, hs, B3, B0, B4, B7, h6, h9⟩
 clear hs B3 B0 B4 B7 h6
 obtain ⟨gy, Cg, Cc, Cf, Cd, C9, Cb, Ca, rfl, rfl, hg_y, J8, Ds, Jc, ng_y_x, B8, hs, B3, B0, B4, B7, h6, h9⟩ := hcut
 have B5 : wc.cell? ⟨w.heap.size, 0, none⟩ = some (.int .i64 n1) := B3.at 0 rfl
 have B6 : wc.cell? ⟨w.heap.size, 1, none⟩ = some (.int .i64 d1) := B3.at 1 rfl
 have Br : w.heap.size < wc.heap.size := B3.lt
 go_wp2_with fail
 clear B5 B6 Br
 with_reducible refine (l1_OfM _ O1.out HU.out).mono ?_
 rintro e w3 ⟨_, rfl, Bc, hb⟩
 obtain ⟨sh10, ah10, nh10, ch10, Ah10, Nh10, Ch10, rfl⟩ := Bc.shape
 replace hs := bStep hs hb
 replace B3 := B3.mono hb
 replace B0 := B0.mono hb
 replace B4 := B4.mono hb
 replace B7 := B7.mono hb
 replace B8 := B8.mono hb
 replace h6 := h6.mono hb
 replace h9 := h9.mono hb
 clear hb
 go_wp2_with fail
 with_reducible refine (al_QuantileA _ (rowsJ PC.kept _ _ _ Cp.out hs) Bc su HZ.out hA HQV.out HQE.out).mono ?_
 rintro e w4 ⟨_, rfl, Bd, hb⟩
 obtain ⟨J0, Ei, Eu, Eo, E0, Ec, E6, rfl⟩ := Bd.shape
 replace hs := bStep hs hb
 replace B3 := B3.mono hb
 replace B0 := B0.mono hb
 replace B4 := B4.mono hb
 replace B7 := B7.mono hb
 replace B8 := B8.mono hb
 replace h6 := h6.mono hb
 replace h9 := h9.mono hb
 replace Bc := Bc.mono hb
 clear hb
 have B5 : w4.cell? ⟨w.heap.size, 0, none⟩ = some (.int .i64 n1) := B3.at 0 rfl
 have B6 : w4.cell? ⟨w.heap.size, 1, none⟩ = some (.int .i64 d1) := B3.at 1 rfl
 have Br : w.heap.size < w4.heap.size := B3.lt
 go_wp2_with fail
 clear B5 B6 Br
 refine Calls.abs ?_
 intro w5 hW
 have hG : Gr [] w4 w5 := by rw [hW]; exact (Gr.refl _ _).alloc
 have B9 : Below w2.heap.size w4 w5 := hG.below0 hs.size
 have hk : KeepD w4 w5 := hG.keep True.intro
 have sz_w5 : w2.heap.size ≤ w4.heap.size := hs.size
 have Jf : w.heap.size < w4.heap.size := B3.lt
 have Dx : w.heap.size + 1 < w4.heap.size := B0.lt
 have K0 : w.heap.size + 1 + 1 < w4.heap.size := B4.lt
 have nx_w5 : gx < w4.heap.size := B7.lt
 have ny_w5 : gy < w4.heap.size := B8.lt
 have Bb : Bx w5 (w4.heap.size) 34 #[.bool J0, .slice Ei Eu Eo, .slice E0 Ec E6] := by rw [hW]; exact (Bx.new0 _ _ _)
 replace hs := hs.trans B9
 replace B3 := hG.bx B3 notMem0
 replace B0 := hG.bx B0 notMem0
 replace B4 := hG.bx B4 notMem0
 replace B7 := hG.bx B7 notMem0
 replace B8 := hG.bx B8 notMem0
 replace h6 := h6.keep hk
 replace h9 := h9.keep hk
 replace Bc := Bc.keep hk
 replace Bd := Bd.keep hk
 clear hW hG hk B9
 have hz_w5 : w4.heap.size < w5.heap.size := Bb.lt
 with_reducible refine (r1_OfM _ O1.out HU.out).mono ?_
 rintro e w6 ⟨_, rfl, Bh, hb⟩
 obtain ⟨sh12, ah12, nh12, ch12, Ah12, Nh12, Ch12, rfl⟩ := Bh.shape
 replace hs := bStep hs hb
 replace B3 := B3.mono hb
 replace B0 := B0.mono hb
 replace B4 := B4.mono hb
 replace B7 := B7.mono hb
 replace B8 := B8.mono hb
 replace Bb := Bb.mono hb
 replace h6 := h6.mono hb
 replace h9 := h9.mono hb
 replace Bc := Bc.mono hb
 replace Bd := Bd.mono hb
 clear hb
 go_wp2_with fail
 with_reducible refine (r8_QuantileA _ (rowsJ RC.kept _ _ _ Cq.out hs) Bh su HZ.out hA HQV.out HQE.out).mono ?_
 rintro e w7 ⟨_, rfl, Bk, hb⟩
 obtain ⟨J1, Ej, Ev, Ep, E1, Ed, E7, rfl⟩ := Bk.shape
 replace hs := bStep hs hb
 replace B3 := B3.mono hb
 replace B0 := B0.mono hb
 replace B4 := B4.mono hb
 replace B7 := B7.mono hb
 replace B8 := B8.mono hb
 replace Bb := Bb.mono hb
 replace h6 := h6.mono hb
 replace h9 := h9.mono hb
 replace Bc := Bc.mono hb
 replace Bd := Bd.mono hb
 replace Bh := Bh.mono hb
 clear hb
 go_wp2_with fail
 refine Calls.abs ?_
 intro w8 hW
 have hG : Gr [] w7 w8 := by rw [hW]; exact (Gr.refl _ _).alloc
 have B9 : Below w2.heap.size w7 w8 := hG.below0 hs.size
 have hk : KeepD w7 w8 := hG.keep True.intro
 have sz_w8 : w2.heap.size ≤ w7.heap.size := hs.size
 have Jg : w.heap.size < w7.heap.size := B3.lt
 have Dy : w.heap.size + 1 < w7.heap.size := B0.lt
 have K1 : w.heap.size + 1 + 1 < w7.heap.size := B4.lt
 have nx_w8 : gx < w7.heap.size := B7.lt
 have ny_w8 : gy < w7.heap.size := B8.lt
 have nu_w8 : w4.heap.size < w7.heap.size := Bb.lt
 have Bg : Bx w8 (w7.heap.size) 41 #[.bool J1, .slice Ej Ev Ep, .slice E1 Ed E7] := by rw [hW]; exact (Bx.new0 _ _ _)
 replace hs := hs.trans B9
 replace B3 := hG.bx B3 notMem0
 replace B0 := hG.bx B0 notMem0
 replace B4 := hG.bx B4 notMem0
 replace B7 := hG.bx B7 notMem0
 replace B8 := hG.bx B8 notMem0
 replace Bb := hG.bx Bb notMem0
 replace h6 := h6.keep hk
 replace h9 := h9.keep hk
 replace Bc := Bc.keep hk
 replace Bd := Bd.keep hk
 replace Bh := Bh.keep hk
 replace Bk := Bk.keep hk
 clear hW hG hk B9
 have hz_w8 : w7.heap.size < w8.heap.size := Bg.lt
 with_reducible refine (al_MeanA _ (rowsJ PC.kept _ _ _ Cp.out hs) HZ.out hA HMV.out HVV.out HME.out).mono ?_
 rintro e w9 ⟨_, _, _, rfl, Bp, Bq, rfl, hb⟩
 obtain ⟨J2, Ek, Ew, Eq, E2, Ee, E8, rfl⟩ := Bp.shape
 obtain ⟨J3, El, Ex, Er, E3, Ef, E9, rfl⟩ := Bq.shape
 replace hs := bStep hs hb
 replace B3 := B3.mono hb
 replace B0 := B0.mono hb
 replace B4 := B4.mono hb
 replace B7 := B7.mono hb
 replace B8 := B8.mono hb
 replace Bb := Bb.mono hb
 replace Bg := Bg.mono hb
 replace h6 := h6.mono hb
 replace h9 := h9.mono hb
 replace Bc := Bc.mono hb
 replace Bd := Bd.mono hb
 replace Bh := Bh.mono hb
 replace Bk := Bk.mono hb
 clear hb
 go_wp2_with fail
 refine Calls.abs ?_
 intro Df hW
 have hG : Gr [] w9 Df := by rw [hW]; exact (Gr.refl _ _).alloc.alloc
 have B9 : Below w2.heap.size w9 Df := hG.below0 hs.size
 have hk : KeepD w9 Df := hG.keep True.intro
 have sz_w10 : w2.heap.size ≤ w9.heap.size := hs.size
 have J9 : w.heap.size < w9.heap.size := B3.lt
 have Dp : w.heap.size + 1 < w9.heap.size := B0.lt
 have Jd : w.heap.size + 1 + 1 < w9.heap.size := B4.lt
 have nx_w10 : gx < w9.heap.size := B7.lt
 have ny_w10 : gy < w9.heap.size := B8.lt
 have nu_w10 : w4.heap.size < w9.heap.size := Bb.lt
 have nv_w10 : w7.heap.size < w9.heap.size := Bg.lt
 have Bo : Bx Df (w9.heap.size) 34 #[.bool J2, .slice Ek Ew Eq, .slice E2 Ee E8] := by rw [hW]; exact ((Bx.new0 _ _ _).alloc _)
 have Bn : Bx Df (w9.heap.size + 1) 34 #[.bool J3, .slice El Ex Er, .slice E3 Ef E9] := by rw [hW]; exact (Bx.new0 _ _ _)
 replace hs := hs.trans B9
 replace B3 := hG.bx B3 notMem0
 replace B0 := hG.bx B0 notMem0
 replace B4 := hG.bx B4 notMem0
 replace B7 := hG.bx B7 notMem0
 replace B8 := hG.bx B8 notMem0
 replace Bb := hG.bx Bb notMem0
 replace Bg := hG.bx Bg notMem0
 replace h6 := h6.keep hk
 replace h9 := h9.keep hk
 replace Bc := Bc.keep hk
 replace Bd := Bd.keep hk
 replace Bh := Bh.keep hk
 replace Bk := Bk.keep hk
 replace Bp := Bp.keep hk
 replace Bq := Bq.keep hk
 clear hW hG hk B9
 have hz_w10 : w9.heap.size + 1 < Df.heap.size := Bn.lt
 with_reducible refine (r8_MeanA _ (rowsJ RC.kept _ _ _ Cq.out hs) HZ.out hA HMV.out HVV.out HME.out).mono ?_
 rintro e Bi ⟨_, _, _, rfl, Bv, Bw, rfl, hb⟩
 obtain ⟨J4, Em, Ey, Es, E4, Eg, Ea, rfl⟩ := Bv.shape
 obtain ⟨J5, En, Ez, Et, E5, Eh, Eb, rfl⟩ := Bw.shape
 replace hs := bStep hs hb
 replace B3 := B3.mono hb
 replace B0 := B0.mono hb
 replace B4 := B4.mono hb
 replace B7 := B7.mono hb
 replace B8 := B8.mono hb
 replace Bb := Bb.mono hb
 replace Bg := Bg.mono hb
 replace Bo := Bo.mono hb
 replace Bn := Bn.mono hb
 replace h6 := h6.mono hb
 replace h9 := h9.mono hb
 replace Bc := Bc.mono hb
 replace Bd := Bd.mono hb
 replace Bh := Bh.mono hb
 replace Bk := Bk.mono hb
 replace Bp := Bp.mono hb
 replace Bq := Bq.mono hb
 clear hb
 have Bl : Bi.cell? ⟨w.heap.size + 1 + 1, 0, none⟩ = some (.int .i64 n3) := B4.at 0 rfl
 have Bm : Bi.cell? ⟨w.heap.size + 1 + 1, 1, none⟩ = some (.int .i64 d3) := B4.at 1 rfl
 have By : w.heap.size + 1 + 1 < Bi.heap.size := B4.lt
 have Bs : w.heap.size + 1 < Bi.heap.size := by omega
 have Dw : w.heap.size < Bi.heap.size := by omega
 go_wp2_with fail
 clear Bl Bm By Bs Dw
 refine Calls.abs ?_
 intro Dh hW
 have hG : Gr [] Bi Dh := by rw [hW]; exact (Gr.refl _ _).alloc.alloc
 have B9 : Below w2.heap.size Bi Dh := hG.below0 hs.size
 have hk : KeepD Bi Dh := hG.keep True.intro
 have sz_w12 : w2.heap.size ≤ Bi.heap.size := hs.size
 have Ja : w.heap.size < Bi.heap.size := B3.lt
 have Dq : w.heap.size + 1 < Bi.heap.size := B0.lt
 have Je : w.heap.size + 1 + 1 < Bi.heap.size := B4.lt
 have nx_w12 : gx < Bi.heap.size := B7.lt
 have ny_w12 : gy < Bi.heap.size := B8.lt
 have nu_w12 : w4.heap.size < Bi.heap.size := Bb.lt
 have nv_w12 : w7.heap.size < Bi.heap.size := Bg.lt
 have nm_w12 : w9.heap.size < Bi.heap.size := Bo.lt
 have nn_w12 : w9.heap.size + 1 < Bi.heap.size := Bn.lt
 have Bu : Bx Dh (Bi.heap.size) 41 #[.bool J4, .slice Em Ey Es, .slice E4 Eg Ea] := by rw [hW]; exact ((Bx.new0 _ _ _).alloc _)
 have Bt : Bx Dh (Bi.heap.size + 1) 41 #[.bool J5, .slice En Ez Et, .slice E5 Eh Eb] := by rw [hW]; exact (Bx.new0 _ _ _)
 replace hs := hs.trans B9
 replace B3 := hG.bx B3 notMem0
 replace B0 := hG.bx B0 notMem0
 replace B4 := hG.bx B4 notMem0
 replace B7 := hG.bx B7 notMem0
 replace B8 := hG.bx B8 notMem0
 replace Bb := hG.bx Bb notMem0
 replace Bg := hG.bx Bg notMem0
 replace Bo := hG.bx Bo notMem0
 replace Bn := hG.bx Bn notMem0
 replace h6 := h6.keep hk
 replace h9 := h9.keep hk
 replace Bc := Bc.keep hk
 replace Bd := Bd.keep hk
 replace Bh := Bh.keep hk
 replace Bk := Bk.keep hk
 replace Bp := Bp.keep hk
 replace Bq := Bq.keep hk
 replace Bv := Bv.keep hk
 replace Bw := Bw.keep hk
 clear hW hG hk B9
 have hz_w12 : Bi.heap.size + 1 < Dh.heap.size := Bt.lt
 with_reducible refine (l1_OfM _ O3.out HMO.out).mono ?_
 rintro e w13 ⟨_, rfl, Ce, hb⟩
 obtain ⟨sh18, ah18, nh18, ch18, Ah18, Nh18, Ch18, rfl⟩ := Ce.shape
 replace hs := bStep hs hb
 replace B3 := B3.mono hb
 replace B0 := B0.mono hb
 replace B4 := B4.mono hb
 replace B7 := B7.mono hb
 replace B8 := B8.mono hb
 replace Bb := Bb.mono hb
 replace Bg := Bg.mono hb
 replace Bo := Bo.mono hb
 replace Bn := Bn.mono hb
 replace Bu := Bu.mono hb
 replace Bt := Bt.mono hb
 replace h6 := h6.mono hb
 replace h9 := h9.mono hb
 replace Bc := Bc.mono hb
 replace Bd := Bd.mono hb
 replace Bh := Bh.mono hb
 replace Bk := Bk.mono hb
 replace Bp := Bp.mono hb
 replace Bq := Bq.mono hb
 replace Bv := Bv.mono hb
 replace Bw := Bw.mono hb
 clear hb
 go_wp2_with fail
 with_reducible refine (al_OutlierA _ (rowsJ PC.kept _ _ _ Cp.out hs) Ce smo HZ.out hA HOV.out HOE.out).mono ?_
 rintro e w14 ⟨rfl, hb⟩
 replace hs := bStep hs hb
 replace B3 := B3.mono hb
 replace B0 := B0.mono hb
 replace B4 := B4.mono hb
 replace B7 := B7.mono hb
 replace B8 := B8.mono hb
 replace Bb := Bb.mono hb
 replace Bg := Bg.mono hb
 replace Bo := Bo.mono hb
 replace Bn := Bn.mono hb
 replace Bu := Bu.mono hb
 replace Bt := Bt.mono hb
 replace h6 := h6.mono hb
 replace h9 := h9.mono hb
 replace Bc := Bc.mono hb
 replace Bd := Bd.mono hb
 replace Bh := Bh.mono hb
 replace Bk := Bk.mono hb
 replace Bp := Bp.mono hb
 replace Bq := Bq.mono hb
 replace Bv := Bv.mono hb
 replace Bw := Bw.mono hb
 replace Ce := Ce.mono hb
 clear hb
 have Bl : w14.cell? ⟨w.heap.size + 1 + 1, 0, none⟩ = some (.int .i64 n3) := B4.at 0 rfl
 have Bm : w14.cell? ⟨w.heap.size + 1 + 1, 1, none⟩ = some (.int .i64 d3) := B4.at 1 rfl
 have By : w.heap.size + 1 + 1 < w14.heap.size := B4.lt
 go_wp2_with fail
 clear Bl Bm By
 with_reducible refine (r1_OfM _ O3.out HMO.out).mono ?_
 rintro e w15 ⟨_, rfl, Cm, hb⟩
 obtain ⟨sh19, ah19, nh19, ch19, Ah19, Nh19, Ch19, rfl⟩ := Cm.shape
 replace hs := bStep hs hb
 replace B3 := B3.mono hb
 replace B0 := B0.mono hb
 replace B4 := B4.mono hb
 replace B7 := B7.mono hb
 replace B8 := B8.mono hb
 replace Bb := Bb.mono hb
 replace Bg := Bg.mono hb
 replace Bo := Bo.mono hb
 replace Bn := Bn.mono hb
 replace Bu := Bu.mono hb
 replace Bt := Bt.mono hb
 replace h6 := h6.mono hb
 replace h9 := h9.mono hb
 replace Bc := Bc.mono hb
 replace Bd := Bd.mono hb
 replace Bh := Bh.mono hb
 replace Bk := Bk.mono hb
 replace Bp := Bp.mono hb
 replace Bq := Bq.mono hb
 replace Bv := Bv.mono hb
 replace Bw := Bw.mono hb
 replace Ce := Ce.mono hb
 clear hb
 go_wp2_with fail
 with_reducible refine (r8_OutlierA _ (rowsJ RC.kept _ _ _ Cq.out hs) Cm smo HZ.out hA HOV.out HOE.out).mono ?_
 rintro e D2 ⟨rfl, hb⟩
 replace hs := bStep hs hb
 replace B3 := B3.mono hb
 replace B0 := B0.mono hb
 replace B4 := B4.mono hb
 replace B7 := B7.mono hb
 replace B8 := B8.mono hb
 replace Bb := Bb.mono hb
 replace Bg := Bg.mono hb
 replace Bo := Bo.mono hb
 replace Bn := Bn.mono hb
 replace Bu := Bu.mono hb
 replace Bt := Bt.mono hb
 replace h6 := h6.mono hb
 replace h9 := h9.mono hb
 replace Bc := Bc.mono hb
 replace Bd := Bd.mono hb
 replace Bh := Bh.mono hb
 replace Bk := Bk.mono hb
 replace Bp := Bp.mono hb
 replace Bq := Bq.mono hb
 replace Bv := Bv.mono hb
 replace Bw := Bw.mono hb
 replace Ce := Ce.mono hb
 replace Cm := Cm.mono hb
 clear hb
 have q20b : (le == le) = true := beq_self_eq_true _
 have q20n : (le != le) = false := bne_self_eq_false _
 have q21b : (qe == qe) = true := beq_self_eq_true _
 have q21n : (qe != qe) = false := bne_self_eq_false _
 have q22b : (me == me) = true := beq_self_eq_true _
 have q22n : (me != me) = false := bne_self_eq_false _
 have q23b : (oe == oe) = true := beq_self_eq_true _
 have q23n : (oe != oe) = false := bne_self_eq_false _
 have q24b : (ov == ov) = true := beq_self_eq_true _
 have q24n : (ov != ov) = false := bne_self_eq_false _
 have D8 : D2.cell? ⟨gx, 0, none⟩ = some (.bool C5) := B7.at 0 rfl
 have D9 : D2.cell? ⟨gx, 1, none⟩ = some (.slice C2 C4 C3) := B7.at 1 rfl
 have Da : D2.cell? ⟨gx, 2, none⟩ = some (.slice Bz C1 C0) := B7.at 2 rfl
 have Lx : gx < D2.heap.size := B7.lt
 have Db : D2.cell? ⟨gy, 0, none⟩ = some (.bool Cg) := B8.at 0 rfl
 have Dc : D2.cell? ⟨gy, 1, none⟩ = some (.slice Cc Cf Cd) := B8.at 1 rfl
 have Dd : D2.cell? ⟨gy, 2, none⟩ = some (.slice C9 Cb Ca) := B8.at 2 rfl
 have Ly : gy < D2.heap.size := B8.lt
 go_wp2_with fail
 clear D8 D9 Da Db Dc Dd Lx Ly
 with_reducible refine (l1_Is _ _ _ _ h6 h9 (SzQ.fit slv)).mono ?_
 rintro e D3 ⟨rfl, hb⟩
 replace hs := bStep hs hb
 replace B3 := B3.mono hb
 replace B0 := B0.mono hb
 replace B4 := B4.mono hb
 replace B7 := B7.mono hb
 replace B8 := B8.mono hb
 replace Bb := Bb.mono hb
 replace Bg := Bg.mono hb
 replace Bo := Bo.mono hb
 replace Bn := Bn.mono hb
 replace Bu := Bu.mono hb
 replace Bt := Bt.mono hb
 replace h6 := h6.mono hb
 replace h9 := h9.mono hb
 replace Bc := Bc.mono hb
 replace Bd := Bd.mono hb
 replace Bh := Bh.mono hb
 replace Bk := Bk.mono hb
 replace Bp := Bp.mono hb
 replace Bq := Bq.mono hb
 replace Bv := Bv.mono hb
 replace Bw := Bw.mono hb
 replace Ce := Ce.mono hb
 replace Cm := Cm.mono hb
 clear hb
 have Jt : D3.cell? ⟨w4.heap.size, 0, none⟩ = some (.bool J0) := Bb.at 0 rfl
 have Ju : D3.cell? ⟨w4.heap.size, 1, none⟩ = some (.slice Ei Eu Eo) := Bb.at 1 rfl
 have Jv : D3.cell? ⟨w4.heap.size, 2, none⟩ = some (.slice E0 Ec E6) := Bb.at 2 rfl
 have Lu : w4.heap.size < D3.heap.size := Bb.lt
 have Jw : D3.cell? ⟨w7.heap.size, 0, none⟩ = some (.bool J1) := Bg.at 0 rfl
 have Jx : D3.cell? ⟨w7.heap.size, 1, none⟩ = some (.slice Ej Ev Ep) := Bg.at 1 rfl
 have Jy : D3.cell? ⟨w7.heap.size, 2, none⟩ = some (.slice E1 Ed E7) := Bg.at 2 rfl
 have Lv : w7.heap.size < D3.heap.size := Bg.lt
 go_wp2_with fail
 clear Jt Ju Jv Jw Jx Jy Lu Lv
 with_reducible refine (l1_Is _ _ _ _ Bd Bk (SzQ.fit sqv)).mono ?_
 rintro e D4 ⟨rfl, hb⟩
 replace hs := bStep hs hb
 replace B3 := B3.mono hb
 replace B0 := B0.mono hb
 replace B4 := B4.mono hb
 replace B7 := B7.mono hb
 replace B8 := B8.mono hb
 replace Bb := Bb.mono hb
 replace Bg := Bg.mono hb
 replace Bo := Bo.mono hb
 replace Bn := Bn.mono hb
 replace Bu := Bu.mono hb
 replace Bt := Bt.mono hb
 replace h6 := h6.mono hb
 replace h9 := h9.mono hb
 replace Bc := Bc.mono hb
 replace Bd := Bd.mono hb
 replace Bh := Bh.mono hb
 replace Bk := Bk.mono hb
 replace Bp := Bp.mono hb
 replace Bq := Bq.mono hb
 replace Bv := Bv.mono hb
 replace Bw := Bw.mono hb
 replace Ce := Ce.mono hb
 replace Cm := Cm.mono hb
 clear hb
 have Jh : D4.cell? ⟨w9.heap.size, 0, none⟩ = some (.bool J2) := Bo.at 0 rfl
 have Ji : D4.cell? ⟨w9.heap.size, 1, none⟩ = some (.slice Ek Ew Eq) := Bo.at 1 rfl
 have Jj : D4.cell? ⟨w9.heap.size, 2, none⟩ = some (.slice E2 Ee E8) := Bo.at 2 rfl
 have Lm : w9.heap.size < D4.heap.size := Bo.lt
 have Jn : D4.cell? ⟨Bi.heap.size, 0, none⟩ = some (.bool J4) := Bu.at 0 rfl
 have Jo : D4.cell? ⟨Bi.heap.size, 1, none⟩ = some (.slice Em Ey Es) := Bu.at 1 rfl
 have Jp : D4.cell? ⟨Bi.heap.size, 2, none⟩ = some (.slice E4 Eg Ea) := Bu.at 2 rfl
 have Lo : Bi.heap.size < D4.heap.size := Bu.lt
 go_wp2_with fail
 clear Jh Ji Jj Jn Jo Jp Lm Lo
 with_reducible refine (l1_Is _ _ _ _ Bp Bv (SzQ.fit smv)).mono ?_
 rintro e D5 ⟨rfl, hb⟩
 replace hs := bStep hs hb
 replace B3 := B3.mono hb
 replace B0 := B0.mono hb
 replace B4 := B4.mono hb
 replace B7 := B7.mono hb
 replace B8 := B8.mono hb
 replace Bb := Bb.mono hb
 replace Bg := Bg.mono hb
 replace Bo := Bo.mono hb
 replace Bn := Bn.mono hb
 replace Bu := Bu.mono hb
 replace Bt := Bt.mono hb
 replace h6 := h6.mono hb
 replace h9 := h9.mono hb
 replace Bc := Bc.mono hb
 replace Bd := Bd.mono hb
 replace Bh := Bh.mono hb
 replace Bk := Bk.mono hb
 replace Bp := Bp.mono hb
 replace Bq := Bq.mono hb
 replace Bv := Bv.mono hb
 replace Bw := Bw.mono hb
 replace Ce := Ce.mono hb
 replace Cm := Cm.mono hb
 clear hb
 have Jk : D5.cell? ⟨w9.heap.size + 1, 0, none⟩ = some (.bool J3) := Bn.at 0 rfl
 have Jl : D5.cell? ⟨w9.heap.size + 1, 1, none⟩ = some (.slice El Ex Er) := Bn.at 1 rfl
 have Jm : D5.cell? ⟨w9.heap.size + 1, 2, none⟩ = some (.slice E3 Ef E9) := Bn.at 2 rfl
 have Ln : w9.heap.size + 1 < D5.heap.size := Bn.lt
 have Jq : D5.cell? ⟨Bi.heap.size + 1, 0, none⟩ = some (.bool J5) := Bt.at 0 rfl
 have Jr : D5.cell? ⟨Bi.heap.size + 1, 1, none⟩ = some (.slice En Ez Et) := Bt.at 1 rfl
 have Js : D5.cell? ⟨Bi.heap.size + 1, 2, none⟩ = some (.slice E5 Eh Eb) := Bt.at 2 rfl
 have Lp : Bi.heap.size + 1 < D5.heap.size := Bt.lt
 go_wp2_with fail
 clear Jk Jl Jm Jq Jr Js Ln Lp
 with_reducible refine (l1_Is _ _ _ _ Bq Bw (SzQ.fit svv)).mono ?_
 rintro e w20 ⟨rfl, hb⟩
 replace hs := bStep hs hb
 replace B3 := B3.mono hb
 replace B0 := B0.mono hb
 replace B4 := B4.mono hb
 replace B7 := B7.mono hb
 replace B8 := B8.mono hb
 replace Bb := Bb.mono hb
 replace Bg := Bg.mono hb
 replace Bo := Bo.mono hb
 replace Bn := Bn.mono hb
 replace Bu := Bu.mono hb
 replace Bt := Bt.mono hb
 replace h6 := h6.mono hb
 replace h9 := h9.mono hb
 replace Bc := Bc.mono hb
 replace Bd := Bd.mono hb
 replace Bh := Bh.mono hb
 replace Bk := Bk.mono hb
 replace Bp := Bp.mono hb
 replace Bq := Bq.mono hb
 replace Bv := Bv.mono hb
 replace Bw := Bw.mono hb
 replace Ce := Ce.mono hb
 replace Cm := Cm.mono hb
 clear hb
 go_wp2
 replace hs := bStep J6.out hs
 go_ret
 exact ⟨rfl, hs⟩
theorem l8_AllowLimits (v0 : Value) (l : List (Int × Int)) (n1 d1 n2 d2 n3 d3 : Int) (w : World) (hl : RowsI 2 FC w v0 l) (hlo : ∀ x ∈ l, DOk x) (o1 : DOk (n1, d1)) (o2 : DOk (n2, d2)) (o3 : DOk (n3, d3)) :
  Calls Tryz.prog 3 #[v0, .agg #[.int .i64 n1, .int .i64 d1], .agg #[.int .i64 n2, .int .i64 d2], .agg #[.int .i64 n3, .int .i64 d3]] w (RetV w (.bool true)) := by
 have la : (l.map fr8).length = l.length := by simp
 by_cases h1 : 70 < l.length
 ·exact l8_Limits_b1 v0 l n1 d1 n2 d2 n3 d3 w hl h1
 ·by_cases h2 : 20 < l.length ∧ l.length ≤ 64
  ·exact l8_Limits_b2 v0 l n1 d1 n2 d2 n3 d3 w hl h2.1 h2.2
  ·by_cases hS : l.all smF24 = true
   ·by_cases hT : [(n1, d1), (n2, d2), (n3, d3)].all smF8 = true
    ·have hh : smF8 (n1, d1) = true ∧ smF8 (n2, d2) = true ∧ smF8 (n3, d3) = true := by simpa [List.all_cons, and_assoc] using hT
     have hz := fr8_sz hS
     have hA : (l.map fr8).length ≤ 20 ∨ 64 < (l.map fr8).length := by omega
     exact l8_Limits_ok v0 l n1 d1 n2 d2 n3 d3 w hl (by omega) (by omega) hS hT hlo o1 o2 o3 _ rfl hA hz _ _ _ rfl rfl rfl (smF8_sz hh.1) (smF8_sz hh.2.1) (smF8_sz hh.2.2) _ _ _ _ _ _ _ _ _ rfl rfl rfl rfl rfl rfl rfl rfl rfl (lmV_sz hz) (qnV_sz hz) (mnV_sz hz hA) (vrV_sz hz hA)
    ·exact l8_Limits_b4 v0 l n1 d1 n2 d2 n3 d3 w hl (by omega) (by omega) hS hT
   ·exact l8_Limits_b3 v0 l n1 d1 n2 d2 n3 d3 w hl (by omega) (by omega) hS
end Go.Proofs.YtlmemilmhdhgbaaGreat
