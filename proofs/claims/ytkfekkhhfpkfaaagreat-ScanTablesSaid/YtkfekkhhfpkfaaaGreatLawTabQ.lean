/-
  Law 07: ScanTables, over awake.
-/
import Derived.Test.YtkfekkhhfpkfaaaGreatPkLBQ
import Derived.Test.YtkfekkhhfpkfaaaGreatPkHeld3Q
import Derived.Test.YtkfekkhhfpkfaaaGreatCorPQ
import Derived.Test.YtkfekkhhfpkfaaaGreatCorRQ
import Derived.Test.YtkfekkhhfpkfaaaGreatRefPorQ
import Derived.Test.YtkfekkhhfpkfaaaGreatAreQ
import Derived.Test.YtkfekkhhfpkfaaaGreatPkLawHQ
set_option linter.unusedSimpArgs false
set_option linter.unusedVariables false
set_option maxRecDepth 100000
set_option maxHeartbeats 16000000
namespace Go.Proofs.YtkfekkhhfpkfaaaGreat
open Go.RowKit Dg
attribute [local go_sem ↓] Go.wp_at_zero Go.wp_at_succ
theorem l7_ScanTables_bad1 (hAw : ∀ w : World, Calls Tryz.prog 8 #[] w (RetV w (.bool true))) (v vy : Value) (l : List DP) (ys : List Nat) (n1 d1 n3 d3 n4 d4 : Int) (w : World) (hl : RowsI 4 QC w v l) (hy : RowsI 1 F32 w vy (ys.map fun x => (x, flQ (cvF x)))) (af : ¬ briefQ l = true) :
  Calls Tryz.prog 5 #[v, .agg #[.int .i64 n1, .int .i64 d1], vy, .agg #[.int .i64 n3, .int .i64 d3, .int .i64 n4, .int .i64 d4]] w (RetV w (.bool true)) := by
 obtain ⟨ao, C9, rfl, Ca, Cb, Cc⟩ := hl.slice
 have HY := Lib.hid hy
 obtain ⟨yo, yc, rfl, Bu, Cd, Ce⟩ := hy.slice
 rw [List.length_map] at HY Bu ⊢
 have hs := Below.refl w.heap.size w
 have Bt := Lib.hid hAw
 have HL := Lib.hid hl
 have C7 := Lib.hid af
 clear hAw hl hy af
 go_enter Tryz.func5, Tryz.ntmps5
 go_wp2_with fail
 refine Calls.abs ?_
 intro w1 hW
 have hG : Gr [] w w1 := by rw [hW]; exact (Gr.refl _ _).alloc.alloc
 have B3 : Below w.heap.size w w1 := hG.below0 hs.size
 have hk : KeepD w w1 := hG.keep True.intro
 have C0 : w.heap.size ≤ w.heap.size := hs.size
 have B1 : Bx w1 (w.heap.size) 67 #[.int .i64 n1, .int .i64 d1] := by rw [hW]; exact ((Bx.new0 _ _ _).alloc _)
 have B0 : Bx w1 (w.heap.size + 1) 68 #[.int .i64 n3, .int .i64 d3, .int .i64 n4, .int .i64 d4] := by rw [hW]; exact (Bx.new0 _ _ _)
 replace hs := hs.trans B3
 clear hW hG hk B3
 have By := B0.lt
 with_reducible refine (l7_brief _ l _ (HL.out.mono QC.kept hs)).mono ?_
 rintro e w2 ⟨rfl, hb⟩
 replace hs := bStep hs hb
 replace B1 := B1.mono hb
 replace B0 := B0.mono hb
 clear hb
 obtain ⟨b1, B8⟩ : ∃ b : Bool, b = briefQ l := ⟨_, rfl⟩
 rw [← B8]
 replace B8 := Lib.hid B8
 have q2 : ¬ (briefQ l = true) := C7.out
 obtain rfl : b1 = false := by rw [B8.out]; simpa using q2
 have Cf := Lib.hid q2
 clear q2
 go_wp2_with fail
 with_reducible refine (Bt.out _).mono ?_
 rintro e w3 ⟨rfl, hb⟩
 replace hs := bStep hs hb
 replace B1 := B1.mono hb
 replace B0 := B0.mono hb
 clear hb
 go_wp2
 go_ret
 exact ⟨rfl, hs⟩
theorem l7_ScanTables_bad2 (hAw : ∀ w : World, Calls Tryz.prog 8 #[] w (RetV w (.bool true))) (v vy : Value) (l : List DP) (ys : List Nat) (n1 d1 n3 d3 n4 d4 : Int) (w : World) (hl : RowsI 4 QC w v l) (hy : RowsI 1 F32 w vy (ys.map fun x => (x, flQ (cvF x)))) (a0 : briefQ l = true) (af : ¬ [(n1, d1)].all shortF = true) :
  Calls Tryz.prog 5 #[v, .agg #[.int .i64 n1, .int .i64 d1], vy, .agg #[.int .i64 n3, .int .i64 d3, .int .i64 n4, .int .i64 d4]] w (RetV w (.bool true)) := by
 obtain ⟨ao, C9, rfl, Ca, Cb, Cc⟩ := hl.slice
 have HY := Lib.hid hy
 obtain ⟨yo, yc, rfl, Bu, Cd, Ce⟩ := hy.slice
 rw [List.length_map] at HY Bu ⊢
 have hs := Below.refl w.heap.size w
 have Bt := Lib.hid hAw
 have HL := Lib.hid hl
 have C4 := Lib.hid a0
 have C7 := Lib.hid af
 clear hAw hl hy a0 af
 go_enter Tryz.func5, Tryz.ntmps5
 go_wp2_with fail
 refine Calls.abs ?_
 intro w1 hW
 have hG : Gr [] w w1 := by rw [hW]; exact (Gr.refl _ _).alloc.alloc
 have B3 : Below w.heap.size w w1 := hG.below0 hs.size
 have hk : KeepD w w1 := hG.keep True.intro
 have C0 : w.heap.size ≤ w.heap.size := hs.size
 have B1 : Bx w1 (w.heap.size) 67 #[.int .i64 n1, .int .i64 d1] := by rw [hW]; exact ((Bx.new0 _ _ _).alloc _)
 have B0 : Bx w1 (w.heap.size + 1) 68 #[.int .i64 n3, .int .i64 d3, .int .i64 n4, .int .i64 d4] := by rw [hW]; exact (Bx.new0 _ _ _)
 replace hs := hs.trans B3
 clear hW hG hk B3
 have By := B0.lt
 with_reducible refine (l7_brief _ l _ (HL.out.mono QC.kept hs)).mono ?_
 rintro e w2 ⟨rfl, hb⟩
 replace hs := bStep hs hb
 replace B1 := B1.mono hb
 replace B0 := B0.mono hb
 clear hb
 obtain ⟨b1, B8⟩ : ∃ b : Bool, b = briefQ l := ⟨_, rfl⟩
 rw [← B8]
 replace B8 := Lib.hid B8
 have q2 : briefQ l = true := C4.out
 obtain rfl : b1 = true := by rw [B8.out]; exact q2
 have Cf := Lib.hid q2
 clear q2
 have Be := B1.a0
 have Bf := B1.a1
 have Br := B1.lt
 go_wp2_with fail
 clear Be Bf Br
 refine Calls.abs ?_
 intro w3 hW
 have hG : Gr [] w2 w3 := by rw [hW]; exact (Gr.refl _ _).alloc
 have B3 : Below w.heap.size w2 w3 := hG.below0 hs.size
 have hk : KeepD w2 w3 := hG.keep True.intro
 have C3 : w.heap.size ≤ w2.heap.size := hs.size
 have Bz := B1.lt
 have Bs := B0.lt
 have B2 : Bx w3 (w2.heap.size) 67 #[.int .i64 n1, .int .i64 d1] := by rw [hW]; exact (Bx.new0 _ _ _)
 replace hs := hs.trans B3
 replace B1 := hG.bx B1 notMem0
 replace B0 := hG.bx B0 notMem0
 clear hW hG hk B3
 have C1 := B2.lt
 with_reducible refine (l7_short _ [(n1, d1)] _ (rowsF1 B2)).mono ?_
 rintro e w4 ⟨rfl, hb⟩
 replace hs := bStep hs hb
 replace B1 := B1.mono hb
 replace B0 := B0.mono hb
 replace B2 := B2.mono hb
 clear hb
 obtain ⟨b3, Bc⟩ : ∃ b : Bool, b = [(n1, d1)].all shortF := ⟨_, rfl⟩
 rw [← Bc]
 replace Bc := Lib.hid Bc
 have q4 : ¬ ([(n1, d1)].all shortF = true) := C7.out
 obtain rfl : b3 = false := by rw [Bc.out]; simpa using q4
 have Da := Lib.hid q4
 clear q4
 go_wp2_with fail
 with_reducible refine (Bt.out _).mono ?_
 rintro e w5 ⟨rfl, hb⟩
 replace hs := bStep hs hb
 replace B1 := B1.mono hb
 replace B0 := B0.mono hb
 replace B2 := B2.mono hb
 clear hb
 go_wp2
 go_ret
 exact ⟨rfl, hs⟩
theorem l7_ScanTables_bad3 (hAw : ∀ w : World, Calls Tryz.prog 8 #[] w (RetV w (.bool true))) (v vy : Value) (l : List DP) (ys : List Nat) (n1 d1 n3 d3 n4 d4 : Int) (w : World) (hl : RowsI 4 QC w v l) (hy : RowsI 1 F32 w vy (ys.map fun x => (x, flQ (cvF x)))) (a0 : briefQ l = true) (a1 : [(n1, d1)].all shortF = true) (af : ¬ [(n3, d3), (n4, d4)].all shortF = true) :
  Calls Tryz.prog 5 #[v, .agg #[.int .i64 n1, .int .i64 d1], vy, .agg #[.int .i64 n3, .int .i64 d3, .int .i64 n4, .int .i64 d4]] w (RetV w (.bool true)) := by
 obtain ⟨ao, C9, rfl, Ca, Cb, Cc⟩ := hl.slice
 have HY := Lib.hid hy
 obtain ⟨yo, yc, rfl, Bu, Cd, Ce⟩ := hy.slice
 rw [List.length_map] at HY Bu ⊢
 have hs := Below.refl w.heap.size w
 have Bt := Lib.hid hAw
 have HL := Lib.hid hl
 have C4 := Lib.hid a0
 have C8 := Lib.hid a1
 have C7 := Lib.hid af
 clear hAw hl hy a0 a1 af
 go_enter Tryz.func5, Tryz.ntmps5
 go_wp2_with fail
 refine Calls.abs ?_
 intro w1 hW
 have hG : Gr [] w w1 := by rw [hW]; exact (Gr.refl _ _).alloc.alloc
 have B3 : Below w.heap.size w w1 := hG.below0 hs.size
 have hk : KeepD w w1 := hG.keep True.intro
 have C0 : w.heap.size ≤ w.heap.size := hs.size
 have B1 : Bx w1 (w.heap.size) 67 #[.int .i64 n1, .int .i64 d1] := by rw [hW]; exact ((Bx.new0 _ _ _).alloc _)
 have B0 : Bx w1 (w.heap.size + 1) 68 #[.int .i64 n3, .int .i64 d3, .int .i64 n4, .int .i64 d4] := by rw [hW]; exact (Bx.new0 _ _ _)
 replace hs := hs.trans B3
 clear hW hG hk B3
 have By := B0.lt
 with_reducible refine (l7_brief _ l _ (HL.out.mono QC.kept hs)).mono ?_
 rintro e w2 ⟨rfl, hb⟩
 replace hs := bStep hs hb
 replace B1 := B1.mono hb
 replace B0 := B0.mono hb
 clear hb
 obtain ⟨b1, B8⟩ : ∃ b : Bool, b = briefQ l := ⟨_, rfl⟩
 rw [← B8]
 replace B8 := Lib.hid B8
 have q2 : briefQ l = true := C4.out
 obtain rfl : b1 = true := by rw [B8.out]; exact q2
 have Cf := Lib.hid q2
 clear q2
 have Be := B1.a0
 have Bf := B1.a1
 have Br := B1.lt
 go_wp2_with fail
 clear Be Bf Br
 refine Calls.abs ?_
 intro w3 hW
 have hG : Gr [] w2 w3 := by rw [hW]; exact (Gr.refl _ _).alloc
 have B3 : Below w.heap.size w2 w3 := hG.below0 hs.size
 have hk : KeepD w2 w3 := hG.keep True.intro
 have C3 : w.heap.size ≤ w2.heap.size := hs.size
 have Bz := B1.lt
 have Bs := B0.lt
 have B2 : Bx w3 (w2.heap.size) 67 #[.int .i64 n1, .int .i64 d1] := by rw [hW]; exact (Bx.new0 _ _ _)
 replace hs := hs.trans B3
 replace B1 := hG.bx B1 notMem0
 replace B0 := hG.bx B0 notMem0
 clear hW hG hk B3
 have C1 := B2.lt
 with_reducible refine (l7_short _ [(n1, d1)] _ (rowsF1 B2)).mono ?_
 rintro e w4 ⟨rfl, hb⟩
 replace hs := bStep hs hb
 replace B1 := B1.mono hb
 replace B0 := B0.mono hb
 replace B2 := B2.mono hb
 clear hb
 obtain ⟨b3, Bc⟩ : ∃ b : Bool, b = [(n1, d1)].all shortF := ⟨_, rfl⟩
 rw [← Bc]
 replace Bc := Lib.hid Bc
 have q4 : [(n1, d1)].all shortF = true := C8.out
 obtain rfl : b3 = true := by rw [Bc.out]; exact q4
 have Da := Lib.hid q4
 clear q4
 go_wp2_with fail
 with_reducible refine (l7_short _ [(n3, d3), (n4, d4)] _ (rowsF2 B0)).mono ?_
 rintro e w5 ⟨rfl, hb⟩
 replace hs := bStep hs hb
 replace B1 := B1.mono hb
 replace B0 := B0.mono hb
 replace B2 := B2.mono hb
 clear hb
 obtain ⟨b5, Bm⟩ : ∃ b : Bool, b = [(n3, d3), (n4, d4)].all shortF := ⟨_, rfl⟩
 rw [← Bm]
 replace Bm := Lib.hid Bm
 have q6 : ¬ ([(n3, d3), (n4, d4)].all shortF = true) := C7.out
 obtain rfl : b5 = false := by rw [Bm.out]; simpa using q6
 have q6H := Lib.hid q6
 clear q6
 go_wp2_with fail
 with_reducible refine (Bt.out _).mono ?_
 rintro e w6 ⟨rfl, hb⟩
 replace hs := bStep hs hb
 replace B1 := B1.mono hb
 replace B0 := B0.mono hb
 replace B2 := B2.mono hb
 clear hb
 go_wp2
 go_ret
 exact ⟨rfl, hs⟩
theorem l7_ScanTables_mid (hAw : ∀ w : World, Calls Tryz.prog 8 #[] w (RetV w (.bool true))) (v vy : Value) (l : List DP) (ys : List Nat) (n1 d1 n3 d3 n4 d4 : Int) (w : World) (hl : RowsI 4 QC w v l) (hy : RowsI 1 F32 w vy (ys.map fun x => (x, flQ (cvF x)))) (a0 : briefQ l = true) (a1 : [(n1, d1)].all shortF = true) (a2 : [(n3, d3), (n4, d4)].all shortF = true) (hm : 30 < ys.length) (hm2 : ys.length ≤ 256) :
  Calls Tryz.prog 5 #[v, .agg #[.int .i64 n1, .int .i64 d1], vy, .agg #[.int .i64 n3, .int .i64 d3, .int .i64 n4, .int .i64 d4]] w (RetV w (.bool true)) := by
 obtain ⟨ao, C9, rfl, Ca, Cb, Cc⟩ := hl.slice
 have HY := Lib.hid hy
 obtain ⟨yo, yc, rfl, Bu, Cd, Ce⟩ := hy.slice
 rw [List.length_map] at HY Bu ⊢
 have hs := Below.refl w.heap.size w
 have Bt := Lib.hid hAw
 have HL := Lib.hid hl
 have C4 := Lib.hid a0
 have C8 := Lib.hid a1
 have HT2 := Lib.hid a2
 clear hAw hl hy a0 a1 a2
 go_enter Tryz.func5, Tryz.ntmps5
 go_wp2_with fail
 refine Calls.abs ?_
 intro w1 hW
 have hG : Gr [] w w1 := by rw [hW]; exact (Gr.refl _ _).alloc.alloc
 have B3 : Below w.heap.size w w1 := hG.below0 hs.size
 have hk : KeepD w w1 := hG.keep True.intro
 have C0 : w.heap.size ≤ w.heap.size := hs.size
 have B1 : Bx w1 (w.heap.size) 67 #[.int .i64 n1, .int .i64 d1] := by rw [hW]; exact ((Bx.new0 _ _ _).alloc _)
 have B0 : Bx w1 (w.heap.size + 1) 68 #[.int .i64 n3, .int .i64 d3, .int .i64 n4, .int .i64 d4] := by rw [hW]; exact (Bx.new0 _ _ _)
 replace hs := hs.trans B3
 clear hW hG hk B3
 have By := B0.lt
 with_reducible refine (l7_brief _ l _ (HL.out.mono QC.kept hs)).mono ?_
 rintro e w2 ⟨rfl, hb⟩
 replace hs := bStep hs hb
 replace B1 := B1.mono hb
 replace B0 := B0.mono hb
 clear hb
 obtain ⟨b1, B8⟩ : ∃ b : Bool, b = briefQ l := ⟨_, rfl⟩
 rw [← B8]
 replace B8 := Lib.hid B8
 have q2 : briefQ l = true := C4.out
 obtain rfl : b1 = true := by rw [B8.out]; exact q2
 have Cf := Lib.hid q2
 clear q2
 have Be := B1.a0
 have Bf := B1.a1
 have Br := B1.lt
 go_wp2_with fail
 clear Be Bf Br
 refine Calls.abs ?_
 intro w3 hW
 have hG : Gr [] w2 w3 := by rw [hW]; exact (Gr.refl _ _).alloc
 have B3 : Below w.heap.size w2 w3 := hG.below0 hs.size
 have hk : KeepD w2 w3 := hG.keep True.intro
 have C3 : w.heap.size ≤ w2.heap.size := hs.size
 have Bz := B1.lt
 have Bs := B0.lt
 have B2 : Bx w3 (w2.heap.size) 67 #[.int .i64 n1, .int .i64 d1] := by rw [hW]; exact (Bx.new0 _ _ _)
 replace hs := hs.trans B3
 replace B1 := hG.bx B1 notMem0
 replace B0 := hG.bx B0 notMem0
 clear hW hG hk B3
 have C1 := B2.lt
 with_reducible refine (l7_short _ [(n1, d1)] _ (rowsF1 B2)).mono ?_
 rintro e w4 ⟨rfl, hb⟩
 replace hs := bStep hs hb
 replace B1 := B1.mono hb
 replace B0 := B0.mono hb
 replace B2 := B2.mono hb
 clear hb
 obtain ⟨b3, Bc⟩ : ∃ b : Bool, b = [(n1, d1)].all shortF := ⟨_, rfl⟩
 rw [← Bc]
 replace Bc := Lib.hid Bc
 have q4 : [(n1, d1)].all shortF = true := C8.out
 obtain rfl : b3 = true := by rw [Bc.out]; exact q4
 have Da := Lib.hid q4
 clear q4
 go_wp2_with fail
 with_reducible refine (l7_short _ [(n3, d3), (n4, d4)] _ (rowsF2 B0)).mono ?_
 rintro e w5 ⟨rfl, hb⟩
 replace hs := bStep hs hb
 replace B1 := B1.mono hb
 replace B0 := B0.mono hb
 replace B2 := B2.mono hb
 clear hb
 obtain ⟨b5, Bm⟩ : ∃ b : Bool, b = [(n3, d3), (n4, d4)].all shortF := ⟨_, rfl⟩
 rw [← Bm]
 replace Bm := Lib.hid Bm
 have q6 : [(n3, d3), (n4, d4)].all shortF = true := HT2.out
 obtain rfl : b5 = true := by rw [Bm.out]; exact q6
 have q6H := Lib.hid q6
 clear q6
 have q7 : 30 < ys.length := by omega
 have q7d : ((30 : Int) < (ys.length : Int)) = True := eq_true (by omega)
 have q8 : ys.length ≤ 256 := by omega
 have q8d : ((ys.length : Int) ≤ 256) = True := eq_true (by omega)
 go_wp2_with fail
 with_reducible refine (Bt.out _).mono ?_
 rintro e w6 ⟨rfl, hb⟩
 replace hs := bStep hs hb
 replace B1 := B1.mono hb
 replace B0 := B0.mono hb
 replace B2 := B2.mono hb
 clear hb
 go_wp2
 go_ret
 exact ⟨rfl, hs⟩
theorem l7_ScanTables_long (hAw : ∀ w : World, Calls Tryz.prog 8 #[] w (RetV w (.bool true))) (v vy : Value) (l : List DP) (ys : List Nat) (n1 d1 n3 d3 n4 d4 : Int) (w : World) (hl : RowsI 4 QC w v l) (hy : RowsI 1 F32 w vy (ys.map fun x => (x, flQ (cvF x)))) (a0 : briefQ l = true) (a1 : [(n1, d1)].all shortF = true) (a2 : [(n3, d3), (n4, d4)].all shortF = true) (hm : 300 < ys.length) :
  Calls Tryz.prog 5 #[v, .agg #[.int .i64 n1, .int .i64 d1], vy, .agg #[.int .i64 n3, .int .i64 d3, .int .i64 n4, .int .i64 d4]] w (RetV w (.bool true)) := by
 obtain ⟨ao, C9, rfl, Ca, Cb, Cc⟩ := hl.slice
 have HY := Lib.hid hy
 obtain ⟨yo, yc, rfl, Bu, Cd, Ce⟩ := hy.slice
 rw [List.length_map] at HY Bu ⊢
 have hs := Below.refl w.heap.size w
 have Bt := Lib.hid hAw
 have HL := Lib.hid hl
 have C4 := Lib.hid a0
 have C8 := Lib.hid a1
 have HT2 := Lib.hid a2
 clear hAw hl hy a0 a1 a2
 go_enter Tryz.func5, Tryz.ntmps5
 go_wp2_with fail
 refine Calls.abs ?_
 intro w1 hW
 have hG : Gr [] w w1 := by rw [hW]; exact (Gr.refl _ _).alloc.alloc
 have B3 : Below w.heap.size w w1 := hG.below0 hs.size
 have hk : KeepD w w1 := hG.keep True.intro
 have C0 : w.heap.size ≤ w.heap.size := hs.size
 have B1 : Bx w1 (w.heap.size) 67 #[.int .i64 n1, .int .i64 d1] := by rw [hW]; exact ((Bx.new0 _ _ _).alloc _)
 have B0 : Bx w1 (w.heap.size + 1) 68 #[.int .i64 n3, .int .i64 d3, .int .i64 n4, .int .i64 d4] := by rw [hW]; exact (Bx.new0 _ _ _)
 replace hs := hs.trans B3
 clear hW hG hk B3
 have By := B0.lt
 with_reducible refine (l7_brief _ l _ (HL.out.mono QC.kept hs)).mono ?_
 rintro e w2 ⟨rfl, hb⟩
 replace hs := bStep hs hb
 replace B1 := B1.mono hb
 replace B0 := B0.mono hb
 clear hb
 obtain ⟨b1, B8⟩ : ∃ b : Bool, b = briefQ l := ⟨_, rfl⟩
 rw [← B8]
 replace B8 := Lib.hid B8
 have q2 : briefQ l = true := C4.out
 obtain rfl : b1 = true := by rw [B8.out]; exact q2
 have Cf := Lib.hid q2
 clear q2
 have Be := B1.a0
 have Bf := B1.a1
 have Br := B1.lt
 go_wp2_with fail
 clear Be Bf Br
 refine Calls.abs ?_
 intro w3 hW
 have hG : Gr [] w2 w3 := by rw [hW]; exact (Gr.refl _ _).alloc
 have B3 : Below w.heap.size w2 w3 := hG.below0 hs.size
 have hk : KeepD w2 w3 := hG.keep True.intro
 have C3 : w.heap.size ≤ w2.heap.size := hs.size
 have Bz := B1.lt
 have Bs := B0.lt
 have B2 : Bx w3 (w2.heap.size) 67 #[.int .i64 n1, .int .i64 d1] := by rw [hW]; exact (Bx.new0 _ _ _)
 replace hs := hs.trans B3
 replace B1 := hG.bx B1 notMem0
 replace B0 := hG.bx B0 notMem0
 clear hW hG hk B3
 have C1 := B2.lt
 with_reducible refine (l7_short _ [(n1, d1)] _ (rowsF1 B2)).mono ?_
 rintro e w4 ⟨rfl, hb⟩
 replace hs := bStep hs hb
 replace B1 := B1.mono hb
 replace B0 := B0.mono hb
 replace B2 := B2.mono hb
 clear hb
 obtain ⟨b3, Bc⟩ : ∃ b : Bool, b = [(n1, d1)].all shortF := ⟨_, rfl⟩
 rw [← Bc]
 replace Bc := Lib.hid Bc
 have q4 : [(n1, d1)].all shortF = true := C8.out
 obtain rfl : b3 = true := by rw [Bc.out]; exact q4
 have Da := Lib.hid q4
 clear q4
 go_wp2_with fail
 with_reducible refine (l7_short _ [(n3, d3), (n4, d4)] _ (rowsF2 B0)).mono ?_
 rintro e w5 ⟨rfl, hb⟩
 replace hs := bStep hs hb
 replace B1 := B1.mono hb
 replace B0 := B0.mono hb
 replace B2 := B2.mono hb
 clear hb
 obtain ⟨b5, Bm⟩ : ∃ b : Bool, b = [(n3, d3), (n4, d4)].all shortF := ⟨_, rfl⟩
 rw [← Bm]
 replace Bm := Lib.hid Bm
 have q6 : [(n3, d3), (n4, d4)].all shortF = true := HT2.out
 obtain rfl : b5 = true := by rw [Bm.out]; exact q6
 have q6H := Lib.hid q6
 clear q6
 have q7 : 30 < ys.length := by omega
 have q7d : ((30 : Int) < (ys.length : Int)) = True := eq_true (by omega)
 have q8 : ¬ (ys.length ≤ 256) := by omega
 have q8d : ((ys.length : Int) ≤ 256) = False := eq_false (by omega)
 have q9 : 300 < ys.length := by omega
 have q9d : ((300 : Int) < (ys.length : Int)) = True := eq_true (by omega)
 go_wp2_with fail
 with_reducible refine (Bt.out _).mono ?_
 rintro e w6 ⟨rfl, hb⟩
 replace hs := bStep hs hb
 replace B1 := B1.mono hb
 replace B0 := B0.mono hb
 replace B2 := B2.mono hb
 clear hb
 go_wp2
 go_ret
 exact ⟨rfl, hs⟩
theorem r_Of_ {n d : Int} {q : Rat} (w : World) (o : DOk (n, d)) (hq : fracQ n d = q) : Calls Tryz.prog 28 #[.agg #[.int .i64 n, .int .i64 d]] w (RetQ w q) := hq ▸ r_Of_calls n d w o.1 o.2.1 o.2.2.1 o.2.2.2
theorem sc_CorrectedE {vy vt : Value} {ys : List Nat} {T : List Stp} {C : List Rat} {ce : Int} (w : World) (hy : RowsI 1 F32 w vy (ys.map fun x => (x, flQ (cvF x)))) (hl : Rows 6 153 (C2 PC) w vt T) (hz : TabSz T) (hC : corV ys T = C) (hce : corE ys T = ce) :
  Calls Tryz.prog 29 #[vy, vt] w (Ret2 (fun w v => Rows 3 32 PC w v C) (fun _ v => v = .int .i64 ce) w) := by
 subst hC hce
 exact sc_Corrected vy vt ys T w hy hl hz
theorem r7_CorrectedE {vy vt : Value} {ys : List Nat} {T : List Stp} {C : List Rat} {ce : Int} (w : World) (hy : RowsI 1 F32 w vy (ys.map fun x => (x, flQ (cvF x)))) (hl : Rows 6 155 (C2 RC) w vt T) (hz : TabSz T) (hC : corV ys T = C) (hce : corE ys T = ce) :
  Calls Tryz.prog 30 #[vy, vt] w (Ret2 (fun w v => Rows 3 38 RC w v C) (fun _ v => v = .int .i64 ce) w) := by
 subst hC hce
 exact r7_Corrected vy vt ys T w hy hl hz
theorem l7_ScanTables_ok (hAw : ∀ w : World, Calls Tryz.prog 8 #[] w (RetV w (.bool true))) (v vy : Value) (l : List DP) (ys : List Nat) (n1 d1 n3 d3 n4 d4 : Int) (w : World) (hl : RowsI 4 QC w v l) (hy : RowsI 1 F32 w vy (ys.map fun x => (x, flQ (cvF x)))) (hok : ∀ x ∈ l, DOk x.1 ∧ DOk x.2) (o1 : DOk (n1, d1)) (o3 : DOk (n3, d3)) (o4 : DOk (n4, d4))
  (a0 : briefQ l = true) (a1 : [(n1, d1)].all shortF = true) (a3 : [(n3, d3), (n4, d4)].all shortF = true) (D5 : l.length ≤ 20) (hm : ys.length ≤ 30 ∨ 256 < ys.length) (hm2 : ys.length ≤ 300)
  (T : List Stp) (hT : T = l.map stpF) (xq : Rat) (hxq : fracQ n1 d1 = xq) (lo3 hi3 : Rat) (hlo3 : spLo n3 d3 n4 d4 = lo3) (hhi3 : spHi n3 d3 n4 d4 = hi3)
  (vq : Rat) (vc : Int) (hvq : fullV T xq = (vq, vc)) (pa pb : Rat) (pc : Int) (hpp : porQ T lo3 hi3 = (pa, pb, pc)) (C : List Rat) (hC : corV ys T = C) (ce : Int) (hce : corE ys T = ce) :
  Calls Tryz.prog 5 #[v, .agg #[.int .i64 n1, .int .i64 d1], vy, .agg #[.int .i64 n3, .int .i64 d3, .int .i64 n4, .int .i64 d4]] w (RetV w (.bool true)) := by
 obtain ⟨ao, C9, rfl, Ca, Cb, Cc⟩ := hl.slice
 have HY := Lib.hid hy
 obtain ⟨yo, yc, rfl, Bu, Cd, Ce⟩ := hy.slice
 rw [List.length_map] at HY Bu ⊢
 have hs := Below.refl w.heap.size w
 have Bt := Lib.hid hAw
 have HL := Lib.hid hl
 have hb : l.all shortP = true := by unfold briefQ at a0; simp only [Bool.and_eq_true] at a0; exact a0.1
 have hz : TabSz T := by rw [hT]; exact stpF_sz hb hok
 have sxq : SzQ 1 xq := hxq ▸ short_sz (x := (n1, d1)) (by simpa using a1) o1
 have Ck : SzQ 1 lo3 := hlo3 ▸ (sp_sz a3 o3 o4).1
 have Cj : SzQ 1 hi3 := hhi3 ▸ (sp_sz a3 o3 o4).2
 have Dk : lo3 ≤ hi3 := hlo3 ▸ hhi3 ▸ sp_le n3 d3 n4 d4
 have svq : SzQ 400 vq := fullV_sz hz (sxq.mono (by omega)) hvq
 obtain ⟨spa, spb⟩ := porQ_mid hz (Ck.mono (by omega)) (Cj.mono (by omega)) hpp
 have hcz : ∀ i, i < C.length → SzQ 30000 (nthQ C i) := hC ▸ fun i hi => corV_sz hz i hi
 have HB := Lib.hid a0
 have HA1 := Lib.hid a1
 have HS3 := Lib.hid a3
 have HTQ := Lib.hid hT
 have HXQ := Lib.hid hxq
 have HLO3 := Lib.hid hlo3
 have HHI3 := Lib.hid hhi3
 have HVQ := Lib.hid hvq
 have HPP := Lib.hid hpp
 have HZ := Lib.hid hz
 have HLE3 := Lib.hid Dk
 have HC := Lib.hid hC
 have HCE := Lib.hid hce
 have HCZ := Lib.hid hcz
 have HOK := Lib.hid hok
 have HO1 := Lib.hid o1
 have HO3 := Lib.hid o3
 have HO4 := Lib.hid o4
 clear hb hAw hl hy a0 a1 a3 hT hxq hlo3 hhi3 hvq hpp hz Dk hC hce hcz hok o1 o3 o4
 go_enter Tryz.func5, Tryz.ntmps5
 go_upto_region 1 with fail
 refine Code.abs ?_
 intro w1 hW
 have hG : Gr [] w w1 := by rw [hW]; exact (Gr.refl _ _).alloc.alloc
 have B3 : Below w.heap.size w w1 := hG.below0 hs.size
 have hk : KeepD w w1 := hG.keep True.intro
 have C0 : w.heap.size ≤ w.heap.size := hs.size
 have B1 : Bx w1 (w.heap.size) 67 #[.int .i64 n1, .int .i64 d1] := by rw [hW]; exact ((Bx.new0 _ _ _).alloc _)
 have B0 : Bx w1 (w.heap.size + 1) 68 #[.int .i64 n3, .int .i64 d3, .int .i64 n4, .int .i64 d4] := by rw [hW]; exact (Bx.new0 _ _ _)
 replace hs := hs.trans B3
 clear hW hG hk B3
 have By := B0.lt
 go_cut [21, 22, 23, 24, 25, 26, 27, 28, 29, 30, 31, 32, 33, 34, 35, 36, 37, 38, 39, 40, 41, 42, 43, 44, 45, 46, 47, 48, 49] (fun k21 k22 k23 k24 k25 k26 k27 k28 k29 k30 k31 k32 k33 k34 k35 k36 k37 k38 k39 k40 k41 k42 k43 k44 k45 k46 k47 k48 k49 wz => k49 = .bool false ∧ Below w.heap.size w wz ∧ Bx wz (w.heap.size) 67 #[.int .i64 n1, .int .i64 d1] ∧ Bx wz (w.heap.size + 1) 68 #[.int .i64 n3, .int .i64 d3, .int .i64 n4, .int .i64 d4])
 case first =>
  go_wp2_with fail
  with_reducible refine (l7_brief _ l _ (HL.out.mono QC.kept hs)).mono ?_
  rintro e w2 ⟨rfl, hb⟩
  replace hs := bStep hs hb
  replace B1 := B1.mono hb
  replace B0 := B0.mono hb
  clear hb
  obtain ⟨b1, B8⟩ : ∃ b : Bool, b = briefQ l := ⟨_, rfl⟩
  rw [← B8]
  replace B8 := Lib.hid B8
  have q2 : briefQ l = true := HB.out
  obtain rfl : b1 = true := by rw [B8.out]; exact q2
  have Cf := Lib.hid q2
  clear q2
  have Be := B1.a0
  have Bf := B1.a1
  have Br := B1.lt
  go_wp2_with fail
  clear Be Bf Br
  refine Calls.abs ?_
  intro w3 hW
  have hG : Gr [] w2 w3 := by rw [hW]; exact (Gr.refl _ _).alloc
  have B3 : Below w.heap.size w2 w3 := hG.below0 hs.size
  have hk : KeepD w2 w3 := hG.keep True.intro
  have C3 : w.heap.size ≤ w2.heap.size := hs.size
  have Bz := B1.lt
  have Bs := B0.lt
  have B2 : Bx w3 (w2.heap.size) 67 #[.int .i64 n1, .int .i64 d1] := by rw [hW]; exact (Bx.new0 _ _ _)
  replace hs := hs.trans B3
  replace B1 := hG.bx B1 notMem0
  replace B0 := hG.bx B0 notMem0
  clear hW hG hk B3
  have C1 := B2.lt
  with_reducible refine (l7_short _ [(n1, d1)] _ (rowsF1 B2)).mono ?_
  rintro e w4 ⟨rfl, hb⟩
  replace hs := bStep hs hb
  replace B1 := B1.mono hb
  replace B0 := B0.mono hb
  replace B2 := B2.mono hb
  clear hb
  obtain ⟨b3, Bc⟩ : ∃ b : Bool, b = [(n1, d1)].all shortF := ⟨_, rfl⟩
  rw [← Bc]
  replace Bc := Lib.hid Bc
  have q4 : [(n1, d1)].all shortF = true := HA1.out
  obtain rfl : b3 = true := by rw [Bc.out]; exact q4
  have Da := Lib.hid q4
  clear q4
  go_wp2_with fail
  with_reducible refine (l7_short _ [(n3, d3), (n4, d4)] _ (rowsF2 B0)).mono ?_
  rintro e w5 ⟨rfl, hb⟩
  replace hs := bStep hs hb
  replace B1 := B1.mono hb
  replace B0 := B0.mono hb
  replace B2 := B2.mono hb
  clear hb
  obtain ⟨b5, Bm⟩ : ∃ b : Bool, b = [(n3, d3), (n4, d4)].all shortF := ⟨_, rfl⟩
  rw [← Bm]
  replace Bm := Lib.hid Bm
  have q6 : [(n3, d3), (n4, d4)].all shortF = true := HS3.out
  obtain rfl : b5 = true := by rw [Bm.out]; exact q6
  have q6H := Lib.hid q6
  clear q6
  by_cases q7 : 30 < ys.length
  ·have q7d : ((30 : Int) < (ys.length : Int)) = True := eq_true (by omega)
   have q8 : ¬ (ys.length ≤ 256) := by omega
   have q8d : ((ys.length : Int) ≤ 256) = False := eq_false (by omega)
   go_wp2_with fail
   go_meet
   exact ⟨(by first | rfl | (simp; omega)), hs, B1, B0⟩
  ·have q7d : ((30 : Int) < (ys.length : Int)) = False := eq_false (by omega)
   go_wp2_with fail
   go_meet
   exact ⟨(by first | rfl | (simp; omega)), hs, B1, B0⟩
 case rest =>
  clear hs B1 B0
  obtain ⟨rfl, hs, B1, B0⟩ := hcut
  go_wp2_with fail
  with_reducible refine (l7_table _ l _ (HL.out.mono QC.kept hs) D5 HOK.out).mono ?_
  rintro e w2 ⟨_, _, rfl, B4, B5, hb⟩
  rw [← HTQ.out] at B4
  obtain ⟨ahP1, khP1, rfl, hP11, hP12, -⟩ := B4.toI.slice
  rw [← HTQ.out] at B5
  obtain ⟨ahR2, khR2, rfl, hR21, hR22, -⟩ := B5.toI.slice
  replace hs := bStep hs hb
  replace B1 := B1.mono hb
  replace B0 := B0.mono hb
  clear hb
  have Be := B1.a0
  have Bf := B1.a1
  have Br := B1.lt
  go_wp2_with fail
  clear Be Bf Br
  with_reducible refine (l7_of_ _ HO1.out HXQ.out).mono ?_
  rintro e w3 ⟨_, rfl, h3, hb⟩
  obtain ⟨sh3, ah3, nh3, ch3, Ah3, Nh3, Ch3, rfl⟩ := h3.shape
  replace hs := bStep hs hb
  replace B1 := B1.mono hb
  replace B0 := B0.mono hb
  replace B4 := rowsJ (C2.kept PC.kept) _ _ _ B4 hb
  replace B5 := rowsJ (C2.kept RC.kept) _ _ _ B5 hb
  clear hb
  go_wp2_with fail
  with_reducible refine (sc_Value _ T _ _ _ _ _ B4 HZ.out h3 (SzQ.mono sxq (by omega)) HVQ.out).mono ?_
  rintro e w4 ⟨_, _, rfl, h4, rfl, hb⟩
  obtain ⟨sh4, ah4, nh4, ch4, Ah4, Nh4, Ch4, rfl⟩ := h4.shape
  clear h3
  replace hs := bStep hs hb
  replace B1 := B1.mono hb
  replace B0 := B0.mono hb
  replace B4 := rowsJ (C2.kept PC.kept) _ _ _ B4 hb
  replace B5 := rowsJ (C2.kept RC.kept) _ _ _ B5 hb
  clear hb
  have Be := B1.a0
  have Bf := B1.a1
  have Br := B1.lt
  go_wp2_with fail
  clear Be Bf Br
  refine Calls.abs ?_
  intro w5 hW
  have hG : Gr [] w4 w5 := by rw [hW]; exact (Gr.refl _ _).alloc
  have B3 : Below w.heap.size w4 w5 := hG.below0 hs.size
  have hk : KeepD w4 w5 := hG.keep True.intro
  have sz_w5 : w.heap.size ≤ w4.heap.size := hs.size
  have nat_w5 := B1.lt
  have Ew := B0.lt
  have B6 : Bx w5 (w4.heap.size) 32 #[.bool sh4, .slice ah4 nh4 ch4, .slice Ah4 Nh4 Ch4] := by rw [hW]; exact (Bx.new0 _ _ _)
  replace hs := hs.trans B3
  replace B4 := rowsJ (C2.kept PC.kept) _ _ _ B4 (hG.below0 (Nat.le_refl _))
  replace B5 := rowsJ (C2.kept RC.kept) _ _ _ B5 (hG.below0 (Nat.le_refl _))
  replace B1 := hG.bx B1 notMem0
  replace B0 := hG.bx B0 notMem0
  replace h4 := h4.keep hk
  clear hW hG hk B3
  have hz_w5 := B6.lt
  with_reducible refine (r_Of_ _ HO1.out HXQ.out).mono ?_
  rintro e w6 ⟨_, rfl, h5, hb⟩
  obtain ⟨sh5, ah5, nh5, ch5, Ah5, Nh5, Ch5, rfl⟩ := h5.shape
  replace hs := bStep hs hb
  replace B1 := B1.mono hb
  replace B0 := B0.mono hb
  replace B6 := B6.mono hb
  replace h4 := h4.mono hb
  replace B4 := rowsJ (C2.kept PC.kept) _ _ _ B4 hb
  replace B5 := rowsJ (C2.kept RC.kept) _ _ _ B5 hb
  clear hb
  go_wp2_with fail
  with_reducible refine (r7_Value _ T _ _ _ _ _ B5 HZ.out h5 (SzQ.mono sxq (by omega)) HVQ.out).mono ?_
  rintro e w7 ⟨_, _, rfl, h6, rfl, hb⟩
  obtain ⟨sh6, ah6, nh6, ch6, Ah6, Nh6, Ch6, rfl⟩ := h6.shape
  clear h5
  replace hs := bStep hs hb
  replace B1 := B1.mono hb
  replace B0 := B0.mono hb
  replace B6 := B6.mono hb
  replace h4 := h4.mono hb
  replace B4 := rowsJ (C2.kept PC.kept) _ _ _ B4 hb
  replace B5 := rowsJ (C2.kept RC.kept) _ _ _ B5 hb
  clear hb
  have q7b : (vc == vc) = true := beq_self_eq_true _
  have q7n : (vc != vc) = false := bne_self_eq_false _
  have Et := B6.a0
  have Eu := B6.a1
  have Ev := B6.a2
  have Lv := B6.lt
  go_wp2_with fail
  clear Et Eu Ev Lv
  refine Calls.abs ?_
  intro w8 hW
  have hG : Gr [] w7 w8 := by rw [hW]; exact (Gr.refl _ _).alloc
  have B3 : Below w.heap.size w7 w8 := hG.below0 hs.size
  have hk : KeepD w7 w8 := hG.keep True.intro
  have sz_w8 : w.heap.size ≤ w7.heap.size := hs.size
  have nat_w8 := B1.lt
  have Ex := B0.lt
  have nv_w8 := B6.lt
  have B9 : Bx w8 (w7.heap.size) 38 #[.bool sh6, .slice ah6 nh6 ch6, .slice Ah6 Nh6 Ch6] := by rw [hW]; exact (Bx.new0 _ _ _)
  replace hs := hs.trans B3
  replace B4 := rowsJ (C2.kept PC.kept) _ _ _ B4 (hG.below0 (Nat.le_refl _))
  replace B5 := rowsJ (C2.kept RC.kept) _ _ _ B5 (hG.below0 (Nat.le_refl _))
  replace B1 := hG.bx B1 notMem0
  replace B0 := hG.bx B0 notMem0
  replace B6 := hG.bx B6 notMem0
  replace h4 := h4.keep hk
  replace h6 := h6.keep hk
  clear hW hG hk B3
  have hz_w8 := B9.lt
  with_reducible refine (l7_is _ _ _ _ h4 h6 (SzQ.fit svq)).mono ?_
  rintro e w9 ⟨rfl, hb⟩
  replace hs := bStep hs hb
  replace B1 := B1.mono hb
  replace B0 := B0.mono hb
  replace B6 := B6.mono hb
  replace B9 := B9.mono hb
  replace h4 := h4.mono hb
  replace h6 := h6.mono hb
  replace B4 := rowsJ (C2.kept PC.kept) _ _ _ B4 hb
  replace B5 := rowsJ (C2.kept RC.kept) _ _ _ B5 hb
  clear hb
  go_wp2_with fail
  with_reducible refine (sc_CorrectedE _ (HY.out.mono F32.kept hs) B4 HZ.out HC.out HCE.out).mono ?_
  rintro e w10 ⟨_, _, rfl, B7, rfl, hb⟩
  obtain ⟨ahCP8, khCP8, rfl, hCP81, hCP82, -⟩ := B7.toI.slice
  replace hs := bStep hs hb
  replace B1 := B1.mono hb
  replace B0 := B0.mono hb
  replace B6 := B6.mono hb
  replace B9 := B9.mono hb
  replace h4 := h4.mono hb
  replace h6 := h6.mono hb
  replace B4 := rowsJ (C2.kept PC.kept) _ _ _ B4 hb
  replace B5 := rowsJ (C2.kept RC.kept) _ _ _ B5 hb
  clear hb
  go_wp2_with fail
  with_reducible refine (r7_CorrectedE _ (HY.out.mono F32.kept hs) B5 HZ.out HC.out HCE.out).mono ?_
  rintro e w11 ⟨_, _, rfl, Bb, rfl, hb⟩
  obtain ⟨ahCR9, khCR9, rfl, hCR91, hCR92, -⟩ := Bb.toI.slice
  replace hs := bStep hs hb
  replace B1 := B1.mono hb
  replace B0 := B0.mono hb
  replace B6 := B6.mono hb
  replace B9 := B9.mono hb
  replace h4 := h4.mono hb
  replace h6 := h6.mono hb
  replace B4 := rowsJ (C2.kept PC.kept) _ _ _ B4 hb
  replace B5 := rowsJ (C2.kept RC.kept) _ _ _ B5 hb
  replace B7 := rowsJ PC.kept _ _ _ B7 hb
  clear hb
  have q10b : (ce == ce) = true := beq_self_eq_true _
  have q10n : (ce != ce) = false := bne_self_eq_false _
  go_wp2_with fail
  with_reducible refine (l7_are _ B7 Bb HCZ.out).mono ?_
  rintro e Cg ⟨rfl, hb⟩
  replace hs := bStep hs hb
  replace B1 := B1.mono hb
  replace B0 := B0.mono hb
  replace B6 := B6.mono hb
  replace B9 := B9.mono hb
  replace h4 := h4.mono hb
  replace h6 := h6.mono hb
  replace B4 := rowsJ (C2.kept PC.kept) _ _ _ B4 hb
  replace B5 := rowsJ (C2.kept RC.kept) _ _ _ B5 hb
  replace B7 := rowsJ PC.kept _ _ _ B7 hb
  replace Bb := rowsJ RC.kept _ _ _ Bb hb
  clear hb
  have Df := B0.a0
  have Dh := B0.a1
  have Di := B0.a2
  have Dj := B0.a3
  have Dt := B0.lt
  go_wp2_with fail
  clear Df Dh Di Dj Dt
  with_reducible refine (l7_span_ _ HS3.out HO3.out HO4.out HLO3.out HHI3.out).mono ?_
  rintro e Bd ⟨_, _, rfl, h11, h12, hb⟩
  obtain ⟨Ea, Dy, E6, E2, Dl, Du, Dp, Eb, Dz, E7, E3, Dm, Dv, Dq, rfl, Bh, Bi⟩ := h11.shape
  obtain ⟨Db, Cx, D6, D1, Cl, Ct, Cp, Dc, Cy, D7, D2, Cm, Cu, Cq, rfl, Bj, Bk⟩ := h12.shape
  replace hs := bStep hs hb
  replace B1 := B1.mono hb
  replace B0 := B0.mono hb
  replace B6 := B6.mono hb
  replace B9 := B9.mono hb
  replace h4 := h4.mono hb
  replace h6 := h6.mono hb
  replace B4 := rowsJ (C2.kept PC.kept) _ _ _ B4 hb
  replace B5 := rowsJ (C2.kept RC.kept) _ _ _ B5 hb
  replace B7 := rowsJ PC.kept _ _ _ B7 hb
  replace Bb := rowsJ RC.kept _ _ _ Bb hb
  clear hb
  go_wp2_with fail
  refine Calls.abs ?_
  intro C5 hW
  have hG : Gr [] Bd C5 := by rw [hW]; exact (Gr.refl _ _).alloc.alloc
  have B3 : Below w.heap.size Bd C5 := hG.below0 hs.size
  have hk : KeepD Bd C5 := hG.keep True.intro
  have sz_w14 : w.heap.size ≤ Bd.heap.size := hs.size
  have Ey := B1.lt
  have Ee := B0.lt
  have nv_w14 := B6.lt
  have nw_w14 := B9.lt
  have Bq : Bx C5 (Bd.heap.size) 85 #[.bool Ea, .slice Dy E6 E2, .slice Dl Du Dp, .bool Eb, .slice Dz E7 E3, .slice Dm Dv Dq] := by rw [hW]; exact ((Bx.new0 _ _ _).alloc _)
  have Bg : Bx C5 (Bd.heap.size + 1) 87 #[.bool Db, .slice Cx D6 D1, .slice Cl Ct Cp, .bool Dc, .slice Cy D7 D2, .slice Cm Cu Cq] := by rw [hW]; exact (Bx.new0 _ _ _)
  replace hs := hs.trans B3
  replace B4 := rowsJ (C2.kept PC.kept) _ _ _ B4 (hG.below0 (Nat.le_refl _))
  replace B5 := rowsJ (C2.kept RC.kept) _ _ _ B5 (hG.below0 (Nat.le_refl _))
  replace B7 := rowsJ PC.kept _ _ _ B7 (hG.below0 (Nat.le_refl _))
  replace Bb := rowsJ RC.kept _ _ _ Bb (hG.below0 (Nat.le_refl _))
  replace B1 := hG.bx B1 notMem0
  replace B0 := hG.bx B0 notMem0
  replace B6 := hG.bx B6 notMem0
  replace B9 := hG.bx B9 notMem0
  replace h4 := h4.keep hk
  replace h6 := h6.keep hk
  replace Bh := Bh.keep hk
  replace Bi := Bi.keep hk
  replace Bj := Bj.keep hk
  replace Bk := Bk.keep hk
  clear hW hG hk B3
  have hz_w14 := Bg.lt
  with_reducible refine (sc_Porosity _ T _ _ _ _ _ _ _ B4 HZ.out (PV2.mk Bh Bi) (SzQ.mono Ck (by omega)) (SzQ.mono Cj (by omega)) HLE3.out HPP.out).mono ?_
  rintro e Ba ⟨_, _, rfl, h13, rfl, hb⟩
  obtain ⟨Dd, Cz, D8, D3, Cn, Cv, Cr, De, D0, D9, D4, Co, Cw, Cs, rfl, Bo, Bp⟩ := h13.shape
  replace hs := bStep hs hb
  replace B1 := B1.mono hb
  replace B0 := B0.mono hb
  replace B6 := B6.mono hb
  replace B9 := B9.mono hb
  replace Bq := Bq.mono hb
  replace Bg := Bg.mono hb
  replace h4 := h4.mono hb
  replace h6 := h6.mono hb
  replace Bh := Bh.mono hb
  replace Bi := Bi.mono hb
  replace Bj := Bj.mono hb
  replace Bk := Bk.mono hb
  replace B4 := rowsJ (C2.kept PC.kept) _ _ _ B4 hb
  replace B5 := rowsJ (C2.kept RC.kept) _ _ _ B5 hb
  replace B7 := rowsJ PC.kept _ _ _ B7 hb
  replace Bb := rowsJ RC.kept _ _ _ Bb hb
  clear hb
  have En := Bg.a0
  have Eo := Bg.a1
  have Ep := Bg.a2
  have Eq := Bg.a3
  have Er := Bg.a4
  have Es := Bg.a5
  have Lt := Bg.lt
  have Lt_0 : Bd.heap.size < Ba.heap.size := by omega
  go_wp2_with fail
  clear En Eo Ep Eq Er Es Lt Lt_0
  refine Calls.abs ?_
  intro Ch hW
  have hG : Gr [] Ba Ch := by rw [hW]; exact (Gr.refl _ _).alloc
  have B3 : Below w.heap.size Ba Ch := hG.below0 hs.size
  have hk : KeepD Ba Ch := hG.keep True.intro
  have sz_w16 : w.heap.size ≤ Ba.heap.size := hs.size
  have Ez := B1.lt
  have Ef := B0.lt
  have nv_w16 := B6.lt
  have nw_w16 := B9.lt
  have ns_w16 := Bq.lt
  have nt_w16 := Bg.lt
  have Bn : Bx Ch (Ba.heap.size) 85 #[.bool Dd, .slice Cz D8 D3, .slice Cn Cv Cr, .bool De, .slice D0 D9 D4, .slice Co Cw Cs] := by rw [hW]; exact (Bx.new0 _ _ _)
  replace hs := hs.trans B3
  replace B4 := rowsJ (C2.kept PC.kept) _ _ _ B4 (hG.below0 (Nat.le_refl _))
  replace B5 := rowsJ (C2.kept RC.kept) _ _ _ B5 (hG.below0 (Nat.le_refl _))
  replace B7 := rowsJ PC.kept _ _ _ B7 (hG.below0 (Nat.le_refl _))
  replace Bb := rowsJ RC.kept _ _ _ Bb (hG.below0 (Nat.le_refl _))
  replace B1 := hG.bx B1 notMem0
  replace B0 := hG.bx B0 notMem0
  replace B6 := hG.bx B6 notMem0
  replace B9 := hG.bx B9 notMem0
  replace Bq := hG.bx Bq notMem0
  replace Bg := hG.bx Bg notMem0
  replace h4 := h4.keep hk
  replace h6 := h6.keep hk
  replace Bh := Bh.keep hk
  replace Bi := Bi.keep hk
  replace Bj := Bj.keep hk
  replace Bk := Bk.keep hk
  replace Bo := Bo.keep hk
  replace Bp := Bp.keep hk
  clear hW hG hk B3
  have hz_w16 := Bn.lt
  with_reducible refine (r7_Porosity _ T _ _ _ _ _ _ _ B5 HZ.out (RV2.mk Bj Bk) (SzQ.mono Ck (by omega)) (SzQ.mono Cj (by omega)) HPP.out).mono ?_
  rintro e Bl ⟨_, _, rfl, h14, rfl, hb⟩
  obtain ⟨Ec, E0, E8, E4, Dn, Dw, Dr, Ed, E1, E9, E5, Do, Dx, Ds, rfl, Bv, Bw⟩ := h14.shape
  replace hs := bStep hs hb
  replace B1 := B1.mono hb
  replace B0 := B0.mono hb
  replace B6 := B6.mono hb
  replace B9 := B9.mono hb
  replace Bq := Bq.mono hb
  replace Bg := Bg.mono hb
  replace Bn := Bn.mono hb
  replace h4 := h4.mono hb
  replace h6 := h6.mono hb
  replace Bh := Bh.mono hb
  replace Bi := Bi.mono hb
  replace Bj := Bj.mono hb
  replace Bk := Bk.mono hb
  replace Bo := Bo.mono hb
  replace Bp := Bp.mono hb
  replace B4 := rowsJ (C2.kept PC.kept) _ _ _ B4 hb
  replace B5 := rowsJ (C2.kept RC.kept) _ _ _ B5 hb
  replace B7 := rowsJ PC.kept _ _ _ B7 hb
  replace Bb := rowsJ RC.kept _ _ _ Bb hb
  clear hb
  have q15b : (pc == pc) = true := beq_self_eq_true _
  have q15n : (pc != pc) = false := bne_self_eq_false _
  have Eh := Bn.a0
  have Ei := Bn.a1
  have Ej := Bn.a2
  have Ek := Bn.a3
  have El := Bn.a4
  have Em := Bn.a5
  have Lp := Bn.lt
  go_wp2_with fail
  clear Eh Ei Ej Ek El Em Lp
  refine Calls.abs ?_
  intro Ci hW
  have hG : Gr [] Bl Ci := by rw [hW]; exact (Gr.refl _ _).alloc
  have B3 : Below w.heap.size Bl Ci := hG.below0 hs.size
  have hk : KeepD Bl Ci := hG.keep True.intro
  have sz_w18 : w.heap.size ≤ Bl.heap.size := hs.size
  have J0 := B1.lt
  have Eg := B0.lt
  have nv_w18 := B6.lt
  have nw_w18 := B9.lt
  have ns_w18 := Bq.lt
  have nt_w18 := Bg.lt
  have np_w18 := Bn.lt
  have C6 : Bx Ci (Bl.heap.size) 87 #[.bool Ec, .slice E0 E8 E4, .slice Dn Dw Dr, .bool Ed, .slice E1 E9 E5, .slice Do Dx Ds] := by rw [hW]; exact (Bx.new0 _ _ _)
  replace hs := hs.trans B3
  replace B4 := rowsJ (C2.kept PC.kept) _ _ _ B4 (hG.below0 (Nat.le_refl _))
  replace B5 := rowsJ (C2.kept RC.kept) _ _ _ B5 (hG.below0 (Nat.le_refl _))
  replace B7 := rowsJ PC.kept _ _ _ B7 (hG.below0 (Nat.le_refl _))
  replace Bb := rowsJ RC.kept _ _ _ Bb (hG.below0 (Nat.le_refl _))
  replace B1 := hG.bx B1 notMem0
  replace B0 := hG.bx B0 notMem0
  replace B6 := hG.bx B6 notMem0
  replace B9 := hG.bx B9 notMem0
  replace Bq := hG.bx Bq notMem0
  replace Bg := hG.bx Bg notMem0
  replace Bn := hG.bx Bn notMem0
  replace h4 := h4.keep hk
  replace h6 := h6.keep hk
  replace Bh := Bh.keep hk
  replace Bi := Bi.keep hk
  replace Bj := Bj.keep hk
  replace Bk := Bk.keep hk
  replace Bo := Bo.keep hk
  replace Bp := Bp.keep hk
  replace Bv := Bv.keep hk
  replace Bw := Bw.keep hk
  clear hW hG hk B3
  have hz_w18 := C6.lt
  with_reducible refine (l7_same _ _ _ _ _ (PV2.mk Bo Bp) (RV2.mk Bv Bw) spa spb).mono ?_
  rintro e w19 ⟨rfl, hb⟩
  replace hs := bStep hs hb
  replace B1 := B1.mono hb
  replace B0 := B0.mono hb
  replace B6 := B6.mono hb
  replace B9 := B9.mono hb
  replace Bq := Bq.mono hb
  replace Bg := Bg.mono hb
  replace Bn := Bn.mono hb
  replace C6 := C6.mono hb
  replace h4 := h4.mono hb
  replace h6 := h6.mono hb
  replace Bh := Bh.mono hb
  replace Bi := Bi.mono hb
  replace Bj := Bj.mono hb
  replace Bk := Bk.mono hb
  replace Bo := Bo.mono hb
  replace Bp := Bp.mono hb
  replace Bv := Bv.mono hb
  replace Bw := Bw.mono hb
  replace B4 := rowsJ (C2.kept PC.kept) _ _ _ B4 hb
  replace B5 := rowsJ (C2.kept RC.kept) _ _ _ B5 hb
  replace B7 := rowsJ PC.kept _ _ _ B7 hb
  replace Bb := rowsJ RC.kept _ _ _ Bb hb
  clear hb
  go_wp2_with fail
  with_reducible refine (Bt.out _).mono ?_
  rintro e w20 ⟨rfl, hb⟩
  replace hs := bStep hs hb
  replace B1 := B1.mono hb
  replace B0 := B0.mono hb
  replace B6 := B6.mono hb
  replace B9 := B9.mono hb
  replace Bq := Bq.mono hb
  replace Bg := Bg.mono hb
  replace Bn := Bn.mono hb
  replace C6 := C6.mono hb
  replace h4 := h4.mono hb
  replace h6 := h6.mono hb
  replace Bh := Bh.mono hb
  replace Bi := Bi.mono hb
  replace Bj := Bj.mono hb
  replace Bk := Bk.mono hb
  replace Bo := Bo.mono hb
  replace Bp := Bp.mono hb
  replace Bv := Bv.mono hb
  replace Bw := Bw.mono hb
  replace B4 := rowsJ (C2.kept PC.kept) _ _ _ B4 hb
  replace B5 := rowsJ (C2.kept RC.kept) _ _ _ B5 hb
  replace B7 := rowsJ PC.kept _ _ _ B7 hb
  replace Bb := rowsJ RC.kept _ _ _ Bb hb
  clear hb
  go_wp2
  go_ret
  exact ⟨rfl, hs⟩
theorem l7_ScanTables_all (hAw : ∀ w : World, Calls Tryz.prog 8 #[] w (RetV w (.bool true))) (v vy : Value) (l : List DP) (ys : List Nat) (n1 d1 n3 d3 n4 d4 : Int) (w : World) (hl : RowsI 4 QC w v l) (hy : RowsI 1 F32 w vy (ys.map fun x => (x, flQ (cvF x)))) (hok : ∀ x ∈ l, DOk x.1 ∧ DOk x.2) (o1 : DOk (n1, d1)) (o3 : DOk (n3, d3)) (o4 : DOk (n4, d4)) :
  Calls Tryz.prog 5 #[v, .agg #[.int .i64 n1, .int .i64 d1], vy, .agg #[.int .i64 n3, .int .i64 d3, .int .i64 n4, .int .i64 d4]] w (RetV w (.bool true)) := by
 by_cases a0 : briefQ l = true
 ·by_cases a1 : [(n1, d1)].all shortF = true
  ·by_cases a3 : [(n3, d3), (n4, d4)].all shortF = true
   ·have D5 : l.length ≤ 20 := by unfold briefQ at a0; simp only [Bool.and_eq_true, decide_eq_true_eq] at a0; omega
    by_cases y1 : ys.length ≤ 30
    ·exact l7_ScanTables_ok hAw v vy l ys n1 d1 n3 d3 n4 d4 w hl hy hok o1 o3 o4 a0 a1 a3 D5 (.inl y1) (by omega) _ rfl _ rfl _ _ rfl rfl _ _ rfl _ _ _ rfl _ rfl _ rfl
    ·by_cases y2 : ys.length ≤ 256
     ·exact l7_ScanTables_mid hAw v vy l ys n1 d1 n3 d3 n4 d4 w hl hy a0 a1 a3 (by omega) y2
     ·by_cases y3 : ys.length ≤ 300
      ·exact l7_ScanTables_ok hAw v vy l ys n1 d1 n3 d3 n4 d4 w hl hy hok o1 o3 o4 a0 a1 a3 D5 (.inr (by omega)) y3 _ rfl _ rfl _ _ rfl rfl _ _ rfl _ _ _ rfl _ rfl _ rfl
      ·exact l7_ScanTables_long hAw v vy l ys n1 d1 n3 d3 n4 d4 w hl hy a0 a1 a3 (by omega)
   ·exact l7_ScanTables_bad3 hAw v vy l ys n1 d1 n3 d3 n4 d4 w hl hy a0 a1 a3
  ·exact l7_ScanTables_bad2 hAw v vy l ys n1 d1 n3 d3 n4 d4 w hl hy a0 a1
 ·exact l7_ScanTables_bad1 hAw v vy l ys n1 d1 n3 d3 n4 d4 w hl hy a0
end Go.Proofs.YtkfekkhhfpkfaaaGreat
