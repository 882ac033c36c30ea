/-
  Law 08: AllowTails.
-/
import Derived.Test.YtmnipggjjcmjkaaGreatAlT0
import Derived.Test.YtmnipggjjcmjkaaGreatAlAw
import Derived.Test.YtmnipggjjcmjkaaGreatPkLaw
set_option linter.unusedSimpArgs false
set_option linter.unusedVariables false
namespace Go.Proofs.YtmnipggjjcmjkaaGreat
open Go.RowKit Dg
attribute [local go_sem ↓] Go.wp_at_zero Go.wp_at_succ

theorem l1_Of_ {n d : Int} {q : Rat} (w : World) (o : DOk (n, d)) (hq : fracQ n d = q) : Calls Tryz.prog 13 #[.agg #[.int .i64 n, .int .i64 d]] w (RetP w q) := l1_Of w o.1 o.2.1 o.2.2.1 o.2.2.2 hq
theorem r1_Of_ {n d : Int} {q : Rat} (w : World) (o : DOk (n, d)) (hq : fracQ n d = q) : Calls Tryz.prog 15 #[.agg #[.int .i64 n, .int .i64 d]] w (RetQ w q) := r1_Of w o.1 o.2.1 o.2.2.1 o.2.2.2 hq

set_option maxRecDepth 100000 in
set_option maxHeartbeats 16000000 in
theorem l8_Tails_bad1 (n k m n1 d1 n2 d2 n3 d3 : Int) (w : World) (hS : ¬ ([(n1, d1), (n2, d2), (n3, d3)].all smF8 = true)) :
    Calls Tryz.prog 3 #[.int .i64 n, .int .i64 k, .int .i64 m, .agg #[.int .i64 n1, .int .i64 d1], .agg #[.int .i64 n2, .int .i64 d2], .agg #[.int .i64 n3, .int .i64 d3]] w (RetV w (.bool true)) := by
  have hs := Below.refl w.heap.size w
  have HS := Lib.hid hS
  clear hS
  go_enter Tryz.func3, Tryz.ntmps3
  go_wp2_with fail
  refine Calls.abs ?_
  intro w1 hW
  have hG : Gr [] w w1 := by rw [hW]; exact (Gr.refl _ _).alloc.alloc.alloc
  have hbw : Below w.heap.size w w1 := hG.below0 hs.size
  have hk : KeepD w w1 := hG.keep True.intro
  have sz_w1 : w.heap.size ≤ w.heap.size := hs.size
  have Blp : Bx w1 (w.heap.size) 23 #[.int .i64 n1, .int .i64 d1] := by rw [hW]; exact (((Bx.new0 _ _ _).alloc _).alloc _)
  have Blshare : Bx w1 (w.heap.size + 1) 23 #[.int .i64 n2, .int .i64 d2] := by rw [hW]; exact ((Bx.new0 _ _ _).alloc _)
  have Blconfidence : Bx w1 (w.heap.size + 1 + 1) 23 #[.int .i64 n3, .int .i64 d3] := by rw [hW]; exact (Bx.new0 _ _ _)
  replace hs := hs.trans hbw
  clear hW hG hk hbw
  have hz_w1 : w.heap.size + 1 + 1 < w1.heap.size := Blconfidence.lt
  with_reducible refine (l8_awake _).mono ?_
  rintro e w2 ⟨rfl, hb⟩
  replace hs := bStep hs hb
  replace Blp := Blp.mono hb
  replace Blshare := Blshare.mono hb
  replace Blconfidence := Blconfidence.mono hb
  clear hb
  have cp_0 : w2.cell? ⟨w.heap.size, 0, none⟩ = some (.int .i64 n1) := Blp.at 0 rfl
  have cp_1 : w2.cell? ⟨w.heap.size, 1, none⟩ = some (.int .i64 d1) := Blp.at 1 rfl
  have Lp : w.heap.size < w2.heap.size := Blp.lt
  have cshare_0 : w2.cell? ⟨w.heap.size + 1, 0, none⟩ = some (.int .i64 n2) := Blshare.at 0 rfl
  have cshare_1 : w2.cell? ⟨w.heap.size + 1, 1, none⟩ = some (.int .i64 d2) := Blshare.at 1 rfl
  have Lshare : w.heap.size + 1 < w2.heap.size := Blshare.lt
  have cconfidence_0 : w2.cell? ⟨w.heap.size + 1 + 1, 0, none⟩ = some (.int .i64 n3) := Blconfidence.at 0 rfl
  have cconfidence_1 : w2.cell? ⟨w.heap.size + 1 + 1, 1, none⟩ = some (.int .i64 d3) := Blconfidence.at 1 rfl
  have Lconfidence : w.heap.size + 1 + 1 < w2.heap.size := Blconfidence.lt
  have Lshare_0 : w.heap.size < w2.heap.size := by omega
  have Lconfidence_0 : w.heap.size + 1 < w2.heap.size := by omega
  go_wp2_with fail
  clear cp_0 cp_1 cshare_0 cshare_1 cconfidence_0 cconfidence_1 Lp Lshare Lconfidence Lshare_0 Lconfidence_0
  refine Calls.abs ?_
  intro w3 hW
  have hG : Gr [] w2 w3 := by rw [hW]; exact (Gr.refl _ _).alloc
  have hbw : Below w.heap.size w2 w3 := hG.below0 hs.size
  have hk : KeepD w2 w3 := hG.keep True.intro
  have sz_w3 : w.heap.size ≤ w2.heap.size := hs.size
  have np_w3 : w.heap.size < w2.heap.size := Blp.lt
  have nshare_w3 : w.heap.size + 1 < w2.heap.size := Blshare.lt
  have nconfidence_w3 : w.heap.size + 1 + 1 < w2.heap.size := Blconfidence.lt
  have Blls : Bx w3 (w2.heap.size) 23 #[.int .i64 n1, .int .i64 d1, .int .i64 n2, .int .i64 d2, .int .i64 n3, .int .i64 d3] := by rw [hW]; exact (Bx.new0 _ _ _)
  replace hs := hs.trans hbw
  replace Blp := hG.bx Blp notMem0
  replace Blshare := hG.bx Blshare notMem0
  replace Blconfidence := hG.bx Blconfidence notMem0
  clear hW hG hk hbw
  have hz_w3 : w2.heap.size < w3.heap.size := Blls.lt
  with_reducible refine (l8_small8 _ [(n1, d1), (n2, d2), (n3, d3)] _ (rowsFt3 Blls)).mono ?_
  rintro e w4 ⟨rfl, hb⟩
  replace hs := bStep hs hb
  replace Blp := Blp.mono hb
  replace Blshare := Blshare.mono hb
  replace Blconfidence := Blconfidence.mono hb
  replace Blls := Blls.mono hb
  clear hb
  obtain ⟨b1, Hb1⟩ : ∃ b : Bool, b = [(n1, d1), (n2, d2), (n3, d3)].all smF8 := ⟨_, rfl⟩
  rw [← Hb1]
  replace Hb1 := Lib.hid Hb1
  have q2 : ¬ ([(n1, d1), (n2, d2), (n3, d3)].all smF8 = true) := HS.out
  obtain rfl : b1 = false := by rw [Hb1.out]; simpa using q2
  have q2H := Lib.hid q2
  clear q2
  go_wp2_with fail
  with_reducible refine (l8_awake _).mono ?_
  rintro e w5 ⟨rfl, hb⟩
  replace hs := bStep hs hb
  replace Blp := Blp.mono hb
  replace Blshare := Blshare.mono hb
  replace Blconfidence := Blconfidence.mono hb
  replace Blls := Blls.mono hb
  clear hb
  go_wp2
  go_ret
  exact ⟨rfl, hs⟩

set_option maxRecDepth 100000 in
set_option maxHeartbeats 16000000 in
theorem l8_Tails_bad2 (n k m n1 d1 n2 d2 n3 d3 : Int) (w : World) (hS : [(n1, d1), (n2, d2), (n3, d3)].all smF8 = true) (hn : 20 < n) (hn2 : n ≤ 64) :
    Calls Tryz.prog 3 #[.int .i64 n, .int .i64 k, .int .i64 m, .agg #[.int .i64 n1, .int .i64 d1], .agg #[.int .i64 n2, .int .i64 d2], .agg #[.int .i64 n3, .int .i64 d3]] w (RetV w (.bool true)) := by
  have hs := Below.refl w.heap.size w
  have HS := Lib.hid hS
  clear hS
  go_enter Tryz.func3, Tryz.ntmps3
  go_wp2_with fail
  refine Calls.abs ?_
  intro w1 hW
  have hG : Gr [] w w1 := by rw [hW]; exact (Gr.refl _ _).alloc.alloc.alloc
  have hbw : Below w.heap.size w w1 := hG.below0 hs.size
  have hk : KeepD w w1 := hG.keep True.intro
  have sz_w1 : w.heap.size ≤ w.heap.size := hs.size
  have Blp : Bx w1 (w.heap.size) 23 #[.int .i64 n1, .int .i64 d1] := by rw [hW]; exact (((Bx.new0 _ _ _).alloc _).alloc _)
  have Blshare : Bx w1 (w.heap.size + 1) 23 #[.int .i64 n2, .int .i64 d2] := by rw [hW]; exact ((Bx.new0 _ _ _).alloc _)
  have Blconfidence : Bx w1 (w.heap.size + 1 + 1) 23 #[.int .i64 n3, .int .i64 d3] := by rw [hW]; exact (Bx.new0 _ _ _)
  replace hs := hs.trans hbw
  clear hW hG hk hbw
  have hz_w1 : w.heap.size + 1 + 1 < w1.heap.size := Blconfidence.lt
  with_reducible refine (l8_awake _).mono ?_
  rintro e w2 ⟨rfl, hb⟩
  replace hs := bStep hs hb
  replace Blp := Blp.mono hb
  replace Blshare := Blshare.mono hb
  replace Blconfidence := Blconfidence.mono hb
  clear hb
  have cp_0 : w2.cell? ⟨w.heap.size, 0, none⟩ = some (.int .i64 n1) := Blp.at 0 rfl
  have cp_1 : w2.cell? ⟨w.heap.size, 1, none⟩ = some (.int .i64 d1) := Blp.at 1 rfl
  have Lp : w.heap.size < w2.heap.size := Blp.lt
  have cshare_0 : w2.cell? ⟨w.heap.size + 1, 0, none⟩ = some (.int .i64 n2) := Blshare.at 0 rfl
  have cshare_1 : w2.cell? ⟨w.heap.size + 1, 1, none⟩ = some (.int .i64 d2) := Blshare.at 1 rfl
  have Lshare : w.heap.size + 1 < w2.heap.size := Blshare.lt
  have cconfidence_0 : w2.cell? ⟨w.heap.size + 1 + 1, 0, none⟩ = some (.int .i64 n3) := Blconfidence.at 0 rfl
  have cconfidence_1 : w2.cell? ⟨w.heap.size + 1 + 1, 1, none⟩ = some (.int .i64 d3) := Blconfidence.at 1 rfl
  have Lconfidence : w.heap.size + 1 + 1 < w2.heap.size := Blconfidence.lt
  have Lshare_0 : w.heap.size < w2.heap.size := by omega
  have Lconfidence_0 : w.heap.size + 1 < w2.heap.size := by omega
  go_wp2_with fail
  clear cp_0 cp_1 cshare_0 cshare_1 cconfidence_0 cconfidence_1 Lp Lshare Lconfidence Lshare_0 Lconfidence_0
  refine Calls.abs ?_
  intro w3 hW
  have hG : Gr [] w2 w3 := by rw [hW]; exact (Gr.refl _ _).alloc
  have hbw : Below w.heap.size w2 w3 := hG.below0 hs.size
  have hk : KeepD w2 w3 := hG.keep True.intro
  have sz_w3 : w.heap.size ≤ w2.heap.size := hs.size
  have np_w3 : w.heap.size < w2.heap.size := Blp.lt
  have nshare_w3 : w.heap.size + 1 < w2.heap.size := Blshare.lt
  have nconfidence_w3 : w.heap.size + 1 + 1 < w2.heap.size := Blconfidence.lt
  have Blls : Bx w3 (w2.heap.size) 23 #[.int .i64 n1, .int .i64 d1, .int .i64 n2, .int .i64 d2, .int .i64 n3, .int .i64 d3] := by rw [hW]; exact (Bx.new0 _ _ _)
  replace hs := hs.trans hbw
  replace Blp := hG.bx Blp notMem0
  replace Blshare := hG.bx Blshare notMem0
  replace Blconfidence := hG.bx Blconfidence notMem0
  clear hW hG hk hbw
  have hz_w3 : w2.heap.size < w3.heap.size := Blls.lt
  with_reducible refine (l8_small8 _ [(n1, d1), (n2, d2), (n3, d3)] _ (rowsFt3 Blls)).mono ?_
  rintro e w4 ⟨rfl, hb⟩
  replace hs := bStep hs hb
  replace Blp := Blp.mono hb
  replace Blshare := Blshare.mono hb
  replace Blconfidence := Blconfidence.mono hb
  replace Blls := Blls.mono hb
  clear hb
  obtain ⟨b1, Hb1⟩ : ∃ b : Bool, b = [(n1, d1), (n2, d2), (n3, d3)].all smF8 := ⟨_, rfl⟩
  rw [← Hb1]
  replace Hb1 := Lib.hid Hb1
  have q2 : [(n1, d1), (n2, d2), (n3, d3)].all smF8 = true := HS.out
  obtain rfl : b1 = true := by rw [Hb1.out]; exact q2
  have q2H := Lib.hid q2
  clear q2
  have q3 : 20 < n := (by omega)
  have q3d : ((20 : Int) < n) = True := eq_true (by omega)
  have q4 : n ≤ 64 := (by omega)
  have q4d : (n ≤ 64) = True := eq_true (by omega)
  go_wp2_with fail
  with_reducible refine (l8_awake _).mono ?_
  rintro e w5 ⟨rfl, hb⟩
  replace hs := bStep hs hb
  replace Blp := Blp.mono hb
  replace Blshare := Blshare.mono hb
  replace Blconfidence := Blconfidence.mono hb
  replace Blls := Blls.mono hb
  clear hb
  go_wp2
  go_ret
  exact ⟨rfl, hs⟩

set_option maxRecDepth 100000 in
set_option maxHeartbeats 16000000 in
theorem l8_Tails_bad3 (n k m n1 d1 n2 d2 n3 d3 : Int) (w : World) (hS : [(n1, d1), (n2, d2), (n3, d3)].all smF8 = true) (hn : n ≤ 20 ∨ 64 < n) (hm : 4 < m) (hm2 : m ≤ 64) :
    Calls Tryz.prog 3 #[.int .i64 n, .int .i64 k, .int .i64 m, .agg #[.int .i64 n1, .int .i64 d1], .agg #[.int .i64 n2, .int .i64 d2], .agg #[.int .i64 n3, .int .i64 d3]] w (RetV w (.bool true)) := by
  have hs := Below.refl w.heap.size w
  have HS := Lib.hid hS
  clear hS
  go_enter Tryz.func3, Tryz.ntmps3
  go_wp2_with fail
  refine Calls.abs ?_
  intro w1 hW
  have hG : Gr [] w w1 := by rw [hW]; exact (Gr.refl _ _).alloc.alloc.alloc
  have hbw : Below w.heap.size w w1 := hG.below0 hs.size
  have hk : KeepD w w1 := hG.keep True.intro
  have sz_w1 : w.heap.size ≤ w.heap.size := hs.size
  have Blp : Bx w1 (w.heap.size) 23 #[.int .i64 n1, .int .i64 d1] := by rw [hW]; exact (((Bx.new0 _ _ _).alloc _).alloc _)
  have Blshare : Bx w1 (w.heap.size + 1) 23 #[.int .i64 n2, .int .i64 d2] := by rw [hW]; exact ((Bx.new0 _ _ _).alloc _)
  have Blconfidence : Bx w1 (w.heap.size + 1 + 1) 23 #[.int .i64 n3, .int .i64 d3] := by rw [hW]; exact (Bx.new0 _ _ _)
  replace hs := hs.trans hbw
  clear hW hG hk hbw
  have hz_w1 : w.heap.size + 1 + 1 < w1.heap.size := Blconfidence.lt
  with_reducible refine (l8_awake _).mono ?_
  rintro e w2 ⟨rfl, hb⟩
  replace hs := bStep hs hb
  replace Blp := Blp.mono hb
  replace Blshare := Blshare.mono hb
  replace Blconfidence := Blconfidence.mono hb
  clear hb
  have cp_0 : w2.cell? ⟨w.heap.size, 0, none⟩ = some (.int .i64 n1) := Blp.at 0 rfl
  have cp_1 : w2.cell? ⟨w.heap.size, 1, none⟩ = some (.int .i64 d1) := Blp.at 1 rfl
  have Lp : w.heap.size < w2.heap.size := Blp.lt
  have cshare_0 : w2.cell? ⟨w.heap.size + 1, 0, none⟩ = some (.int .i64 n2) := Blshare.at 0 rfl
  have cshare_1 : w2.cell? ⟨w.heap.size + 1, 1, none⟩ = some (.int .i64 d2) := Blshare.at 1 rfl
  have Lshare : w.heap.size + 1 < w2.heap.size := Blshare.lt
  have cconfidence_0 : w2.cell? ⟨w.heap.size + 1 + 1, 0, none⟩ = some (.int .i64 n3) := Blconfidence.at 0 rfl
  have cconfidence_1 : w2.cell? ⟨w.heap.size + 1 + 1, 1, none⟩ = some (.int .i64 d3) := Blconfidence.at 1 rfl
  have Lconfidence : w.heap.size + 1 + 1 < w2.heap.size := Blconfidence.lt
  have Lshare_0 : w.heap.size < w2.heap.size := by omega
  have Lconfidence_0 : w.heap.size + 1 < w2.heap.size := by omega
  go_wp2_with fail
  clear cp_0 cp_1 cshare_0 cshare_1 cconfidence_0 cconfidence_1 Lp Lshare Lconfidence Lshare_0 Lconfidence_0
  refine Calls.abs ?_
  intro w3 hW
  have hG : Gr [] w2 w3 := by rw [hW]; exact (Gr.refl _ _).alloc
  have hbw : Below w.heap.size w2 w3 := hG.below0 hs.size
  have hk : KeepD w2 w3 := hG.keep True.intro
  have sz_w3 : w.heap.size ≤ w2.heap.size := hs.size
  have np_w3 : w.heap.size < w2.heap.size := Blp.lt
  have nshare_w3 : w.heap.size + 1 < w2.heap.size := Blshare.lt
  have nconfidence_w3 : w.heap.size + 1 + 1 < w2.heap.size := Blconfidence.lt
  have Blls : Bx w3 (w2.heap.size) 23 #[.int .i64 n1, .int .i64 d1, .int .i64 n2, .int .i64 d2, .int .i64 n3, .int .i64 d3] := by rw [hW]; exact (Bx.new0 _ _ _)
  replace hs := hs.trans hbw
  replace Blp := hG.bx Blp notMem0
  replace Blshare := hG.bx Blshare notMem0
  replace Blconfidence := hG.bx Blconfidence notMem0
  clear hW hG hk hbw
  have hz_w3 : w2.heap.size < w3.heap.size := Blls.lt
  with_reducible refine (l8_small8 _ [(n1, d1), (n2, d2), (n3, d3)] _ (rowsFt3 Blls)).mono ?_
  rintro e w4 ⟨rfl, hb⟩
  replace hs := bStep hs hb
  replace Blp := Blp.mono hb
  replace Blshare := Blshare.mono hb
  replace Blconfidence := Blconfidence.mono hb
  replace Blls := Blls.mono hb
  clear hb
  obtain ⟨b1, Hb1⟩ : ∃ b : Bool, b = [(n1, d1), (n2, d2), (n3, d3)].all smF8 := ⟨_, rfl⟩
  rw [← Hb1]
  replace Hb1 := Lib.hid Hb1
  have q2 : [(n1, d1), (n2, d2), (n3, d3)].all smF8 = true := HS.out
  obtain rfl : b1 = true := by rw [Hb1.out]; exact q2
  have q2H := Lib.hid q2
  clear q2
  by_cases q3 : 20 < n
  · have q3d : ((20 : Int) < n) = True := eq_true (by omega)
    have q4 : ¬ (n ≤ 64) := (by omega)
    have q4d : (n ≤ 64) = False := eq_false (by omega)
    have q5 : 4 < m := (by omega)
    have q5d : ((4 : Int) < m) = True := eq_true (by omega)
    have q6 : m ≤ 64 := (by omega)
    have q6d : (m ≤ 64) = True := eq_true (by omega)
    go_wp2_with fail
    with_reducible refine (l8_awake _).mono ?_
    rintro e w5 ⟨rfl, hb⟩
    replace hs := bStep hs hb
    replace Blp := Blp.mono hb
    replace Blshare := Blshare.mono hb
    replace Blconfidence := Blconfidence.mono hb
    replace Blls := Blls.mono hb
    clear hb
    go_wp2
    go_ret
    exact ⟨rfl, hs⟩
  · have q3d : ((20 : Int) < n) = False := eq_false (by omega)
    have q4 : 4 < m := (by omega)
    have q4d : ((4 : Int) < m) = True := eq_true (by omega)
    have q5 : m ≤ 64 := (by omega)
    have q5d : (m ≤ 64) = True := eq_true (by omega)
    go_wp2_with fail
    with_reducible refine (l8_awake _).mono ?_
    rintro e w5 ⟨rfl, hb⟩
    replace hs := bStep hs hb
    replace Blp := Blp.mono hb
    replace Blshare := Blshare.mono hb
    replace Blconfidence := Blconfidence.mono hb
    replace Blls := Blls.mono hb
    clear hb
    go_wp2
    go_ret
    exact ⟨rfl, hs⟩

set_option maxRecDepth 100000 in
set_option maxHeartbeats 16000000 in
theorem l8_Tails_ok (n k m n1 d1 n2 d2 n3 d3 : Int) (w : World) (hS : [(n1, d1), (n2, d2), (n3, d3)].all smF8 = true) (hn : n ≤ 20 ∨ 64 < n) (hm : m ≤ 4 ∨ 64 < m) (hk : k ≤ 9223372036854775807) (o1 : DOk (n1, d1)) (o2 : DOk (n2, d2)) (o3 : DOk (n3, d3))
    (p u c : Rat) (hp : fracQ n1 d1 = p) (hu : fracQ n2 d2 = u) (hc : fracQ n3 d3 = c) (sp : SzQ 1 p) (su : SzQ 1 u) (sc : SzQ 1 c) (q : Rat) (e r f d g : Int) (hq : tlV n k p = q) (he : tlE n p = e) (sq : SzQ 100 q)
    (hr : rkV n u c = r) (hf : rkEr n u c = f) (hd : cpV m u c = d) (hg : cpEr m u c = g) :
    Calls Tryz.prog 3 #[.int .i64 n, .int .i64 k, .int .i64 m, .agg #[.int .i64 n1, .int .i64 d1], .agg #[.int .i64 n2, .int .i64 d2], .agg #[.int .i64 n3, .int .i64 d3]] w (RetV w (.bool true)) := by
  have hs := Below.refl w.heap.size w
  have HS := Lib.hid hS
  have O1 := Lib.hid o1
  have O2 := Lib.hid o2
  have O3 := Lib.hid o3
  have HP := Lib.hid hp
  have HU := Lib.hid hu
  have HC := Lib.hid hc
  have HQ := Lib.hid hq
  have HE := Lib.hid he
  have HR := Lib.hid hr
  have HF := Lib.hid hf
  have HD := Lib.hid hd
  have HG := Lib.hid hg
  clear hS o1 o2 o3 hp hu hc hq he hr hf hd hg
  go_enter Tryz.func3, Tryz.ntmps3
  go_wp2_with fail
  refine Calls.abs ?_
  intro w1 hW
  have hG : Gr [] w w1 := by rw [hW]; exact (Gr.refl _ _).alloc.alloc.alloc
  have hbw : Below w.heap.size w w1 := hG.below0 hs.size
  have hk : KeepD w w1 := hG.keep True.intro
  have sz_w1 : w.heap.size ≤ w.heap.size := hs.size
  have Blp : Bx w1 (w.heap.size) 23 #[.int .i64 n1, .int .i64 d1] := by rw [hW]; exact (((Bx.new0 _ _ _).alloc _).alloc _)
  have Blshare : Bx w1 (w.heap.size + 1) 23 #[.int .i64 n2, .int .i64 d2] := by rw [hW]; exact ((Bx.new0 _ _ _).alloc _)
  have Blconfidence : Bx w1 (w.heap.size + 1 + 1) 23 #[.int .i64 n3, .int .i64 d3] := by rw [hW]; exact (Bx.new0 _ _ _)
  replace hs := hs.trans hbw
  clear hW hG hk hbw
  have hz_w1 : w.heap.size + 1 + 1 < w1.heap.size := Blconfidence.lt
  with_reducible refine (l8_awake _).mono ?_
  rintro e w2 ⟨rfl, hb⟩
  replace hs := bStep hs hb
  replace Blp := Blp.mono hb
  replace Blshare := Blshare.mono hb
  replace Blconfidence := Blconfidence.mono hb
  clear hb
  have cp_0 : w2.cell? ⟨w.heap.size, 0, none⟩ = some (.int .i64 n1) := Blp.at 0 rfl
  have cp_1 : w2.cell? ⟨w.heap.size, 1, none⟩ = some (.int .i64 d1) := Blp.at 1 rfl
  have Lp : w.heap.size < w2.heap.size := Blp.lt
  have cshare_0 : w2.cell? ⟨w.heap.size + 1, 0, none⟩ = some (.int .i64 n2) := Blshare.at 0 rfl
  have cshare_1 : w2.cell? ⟨w.heap.size + 1, 1, none⟩ = some (.int .i64 d2) := Blshare.at 1 rfl
  have Lshare : w.heap.size + 1 < w2.heap.size := Blshare.lt
  have cconfidence_0 : w2.cell? ⟨w.heap.size + 1 + 1, 0, none⟩ = some (.int .i64 n3) := Blconfidence.at 0 rfl
  have cconfidence_1 : w2.cell? ⟨w.heap.size + 1 + 1, 1, none⟩ = some (.int .i64 d3) := Blconfidence.at 1 rfl
  have Lconfidence : w.heap.size + 1 + 1 < w2.heap.size := Blconfidence.lt
  have Lshare_0 : w.heap.size < w2.heap.size := by omega
  have Lconfidence_0 : w.heap.size + 1 < w2.heap.size := by omega
  go_wp2_with fail
  clear cp_0 cp_1 cshare_0 cshare_1 cconfidence_0 cconfidence_1 Lp Lshare Lconfidence Lshare_0 Lconfidence_0
  refine Calls.abs ?_
  intro w3 hW
  have hG : Gr [] w2 w3 := by rw [hW]; exact (Gr.refl _ _).alloc
  have hbw : Below w.heap.size w2 w3 := hG.below0 hs.size
  have hk : KeepD w2 w3 := hG.keep True.intro
  have sz_w3 : w.heap.size ≤ w2.heap.size := hs.size
  have np_w3 : w.heap.size < w2.heap.size := Blp.lt
  have nshare_w3 : w.heap.size + 1 < w2.heap.size := Blshare.lt
  have nconfidence_w3 : w.heap.size + 1 + 1 < w2.heap.size := Blconfidence.lt
  have Blls : Bx w3 (w2.heap.size) 23 #[.int .i64 n1, .int .i64 d1, .int .i64 n2, .int .i64 d2, .int .i64 n3, .int .i64 d3] := by rw [hW]; exact (Bx.new0 _ _ _)
  replace hs := hs.trans hbw
  replace Blp := hG.bx Blp notMem0
  replace Blshare := hG.bx Blshare notMem0
  replace Blconfidence := hG.bx Blconfidence notMem0
  clear hW hG hk hbw
  have hz_w3 : w2.heap.size < w3.heap.size := Blls.lt
  with_reducible refine (l8_small8 _ [(n1, d1), (n2, d2), (n3, d3)] _ (rowsFt3 Blls)).mono ?_
  rintro e w4 ⟨rfl, hb⟩
  replace hs := bStep hs hb
  replace Blp := Blp.mono hb
  replace Blshare := Blshare.mono hb
  replace Blconfidence := Blconfidence.mono hb
  replace Blls := Blls.mono hb
  clear hb
  obtain ⟨b1, Hb1⟩ : ∃ b : Bool, b = [(n1, d1), (n2, d2), (n3, d3)].all smF8 := ⟨_, rfl⟩
  rw [← Hb1]
  replace Hb1 := Lib.hid Hb1
  have q2 : [(n1, d1), (n2, d2), (n3, d3)].all smF8 = true := HS.out
  obtain rfl : b1 = true := by rw [Hb1.out]; exact q2
  have q2H := Lib.hid q2
  clear q2
  by_cases q3 : 20 < n
  · have q3d : ((20 : Int) < n) = True := eq_true (by omega)
    have q4 : ¬ (n ≤ 64) := (by omega)
    have q4d : (n ≤ 64) = False := eq_false (by omega)
    by_cases q5 : 4 < m
    · have q5d : ((4 : Int) < m) = True := eq_true (by omega)
      have q6 : ¬ (m ≤ 64) := (by omega)
      have q6d : (m ≤ 64) = False := eq_false (by omega)
      have cp_0 : w4.cell? ⟨w.heap.size, 0, none⟩ = some (.int .i64 n1) := Blp.at 0 rfl
      have cp_1 : w4.cell? ⟨w.heap.size, 1, none⟩ = some (.int .i64 d1) := Blp.at 1 rfl
      have Lp : w.heap.size < w4.heap.size := Blp.lt
      go_wp2_with fail
      clear cp_0 cp_1 Lp
      with_reducible refine (l1_Of_ _ O1.out HP.out).mono ?_
      rintro e w5 ⟨_, rfl, h7, hb⟩
      obtain ⟨sh7, ah7, nh7, ch7, Ah7, Nh7, Ch7, rfl⟩ := h7.shape
      replace hs := bStep hs hb
      replace Blp := Blp.mono hb
      replace Blshare := Blshare.mono hb
      replace Blconfidence := Blconfidence.mono hb
      replace Blls := Blls.mono hb
      clear hb
      go_wp2_with fail
      with_reducible refine (al_Tail_all _ h7 sp (by omega) HQ.out HE.out).mono ?_
      rintro e w6 ⟨_, rfl, h8, hb⟩
      obtain ⟨sh8, ah8, nh8, ch8, Ah8, Nh8, Ch8, rfl⟩ := h8.shape
      replace hs := bStep hs hb
      replace Blp := Blp.mono hb
      replace Blshare := Blshare.mono hb
      replace Blconfidence := Blconfidence.mono hb
      replace Blls := Blls.mono hb
      replace h7 := h7.mono hb
      clear hb
      have cp_0 : w6.cell? ⟨w.heap.size, 0, none⟩ = some (.int .i64 n1) := Blp.at 0 rfl
      have cp_1 : w6.cell? ⟨w.heap.size, 1, none⟩ = some (.int .i64 d1) := Blp.at 1 rfl
      have Lp : w.heap.size < w6.heap.size := Blp.lt
      go_wp2_with fail
      clear cp_0 cp_1 Lp
      refine Calls.abs ?_
      intro w7 hW
      have hG : Gr [] w6 w7 := by rw [hW]; exact (Gr.refl _ _).alloc
      have hbw : Below w.heap.size w6 w7 := hG.below0 hs.size
      have hk : KeepD w6 w7 := hG.keep True.intro
      have sz_w7 : w.heap.size ≤ w6.heap.size := hs.size
      have np_w7 : w.heap.size < w6.heap.size := Blp.lt
      have nshare_w7 : w.heap.size + 1 < w6.heap.size := Blshare.lt
      have nconfidence_w7 : w.heap.size + 1 + 1 < w6.heap.size := Blconfidence.lt
      have nls_w7 : w2.heap.size < w6.heap.size := Blls.lt
      have Blx : Bx w7 (w6.heap.size) 29 #[.bool sh8, .slice ah8 nh8 ch8, .slice Ah8 Nh8 Ch8] := by rw [hW]; exact (Bx.new0 _ _ _)
      replace hs := hs.trans hbw
      replace Blp := hG.bx Blp notMem0
      replace Blshare := hG.bx Blshare notMem0
      replace Blconfidence := hG.bx Blconfidence notMem0
      replace Blls := hG.bx Blls notMem0
      replace h7 := h7.keep hk
      replace h8 := h8.keep hk
      clear hW hG hk hbw
      have hz_w7 : w6.heap.size < w7.heap.size := Blx.lt
      with_reducible refine (r1_Of_ _ O1.out HP.out).mono ?_
      rintro e w8 ⟨_, rfl, h9, hb⟩
      obtain ⟨sh9, ah9, nh9, ch9, Ah9, Nh9, Ch9, rfl⟩ := h9.shape
      replace hs := bStep hs hb
      replace Blp := Blp.mono hb
      replace Blshare := Blshare.mono hb
      replace Blconfidence := Blconfidence.mono hb
      replace Blls := Blls.mono hb
      replace Blx := Blx.mono hb
      replace h7 := h7.mono hb
      replace h8 := h8.mono hb
      clear hb
      go_wp2_with fail
      with_reducible refine (r8_Tail_all _ h9 sp (by omega) HQ.out HE.out).mono ?_
      rintro e w9 ⟨_, rfl, h10, hb⟩
      obtain ⟨sh10, ah10, nh10, ch10, Ah10, Nh10, Ch10, rfl⟩ := h10.shape
      replace hs := bStep hs hb
      replace Blp := Blp.mono hb
      replace Blshare := Blshare.mono hb
      replace Blconfidence := Blconfidence.mono hb
      replace Blls := Blls.mono hb
      replace Blx := Blx.mono hb
      replace h7 := h7.mono hb
      replace h8 := h8.mono hb
      replace h9 := h9.mono hb
      clear hb
      go_upto_region 5 with fail
      refine Code.abs ?_
      intro w10 hW
      have hG : Gr [] w9 w10 := by rw [hW]; exact (Gr.refl _ _).alloc
      have hbw : Below w.heap.size w9 w10 := hG.below0 hs.size
      have hk : KeepD w9 w10 := hG.keep True.intro
      have sz_w10 : w.heap.size ≤ w9.heap.size := hs.size
      have np_w10 : w.heap.size < w9.heap.size := Blp.lt
      have nshare_w10 : w.heap.size + 1 < w9.heap.size := Blshare.lt
      have nconfidence_w10 : w.heap.size + 1 + 1 < w9.heap.size := Blconfidence.lt
      have nls_w10 : w2.heap.size < w9.heap.size := Blls.lt
      have nx_w10 : w6.heap.size < w9.heap.size := Blx.lt
      have Bly : Bx w10 (w9.heap.size) 36 #[.bool sh10, .slice ah10 nh10 ch10, .slice Ah10 Nh10 Ch10] := by rw [hW]; exact (Bx.new0 _ _ _)
      replace hs := hs.trans hbw
      replace Blp := hG.bx Blp notMem0
      replace Blshare := hG.bx Blshare notMem0
      replace Blconfidence := hG.bx Blconfidence notMem0
      replace Blls := hG.bx Blls notMem0
      replace Blx := hG.bx Blx notMem0
      replace h7 := h7.keep hk
      replace h8 := h8.keep hk
      replace h9 := h9.keep hk
      replace h10 := h10.keep hk
      clear hW hG hk hbw
      have hz_w10 : w9.heap.size < w10.heap.size := Bly.lt
      refine U_region (S := fun w' => w'.cell? ⟨w.heap.size + 1, 0, none⟩ = some (.int .i64 n2) ∧ w'.cell? ⟨w.heap.size + 1, 1, none⟩ = some (.int .i64 d2) ∧ w'.cell? ⟨w.heap.size + 1 + 1, 0, none⟩ = some (.int .i64 n3) ∧ w'.cell? ⟨w.heap.size + 1 + 1, 1, none⟩ = some (.int .i64 d3)) (by kernel_rfl) 11 ?_
      refine AnyU.abs ?_
      intro w11 hW
      have hb : Below w10.heap.size w10 w11 := by rw [hW]; exact bDrew _
      replace hs := bStep hs hb
      replace Blp := Blp.mono hb
      replace Blshare := Blshare.mono hb
      replace Blconfidence := Blconfidence.mono hb
      replace Blls := Blls.mono hb
      replace Blx := Blx.mono hb
      replace Bly := Bly.mono hb
      replace h7 := h7.mono hb
      replace h8 := h8.mono hb
      replace h9 := h9.mono hb
      replace h10 := h10.mono hb
      clear hb hW
      have cshare_0 : w11.cell? ⟨w.heap.size + 1, 0, none⟩ = some (.int .i64 n2) := Blshare.at 0 rfl
      have cshare_1 : w11.cell? ⟨w.heap.size + 1, 1, none⟩ = some (.int .i64 d2) := Blshare.at 1 rfl
      have cconfidence_0 : w11.cell? ⟨w.heap.size + 1 + 1, 0, none⟩ = some (.int .i64 n3) := Blconfidence.at 0 rfl
      have cconfidence_1 : w11.cell? ⟨w.heap.size + 1 + 1, 1, none⟩ = some (.int .i64 d3) := Blconfidence.at 1 rfl
      have hH := (show w11.cell? ⟨w.heap.size + 1, 0, none⟩ = some (.int .i64 n2) ∧ w11.cell? ⟨w.heap.size + 1, 1, none⟩ = some (.int .i64 d2) ∧ w11.cell? ⟨w.heap.size + 1 + 1, 0, none⟩ = some (.int .i64 n3) ∧ w11.cell? ⟨w.heap.size + 1 + 1, 1, none⟩ = some (.int .i64 d3) from ⟨cshare_0, cshare_1, cconfidence_0, cconfidence_1⟩)
      refine U_takeN (i := 0) (d := 69) (v := ?_) rfl rfl rfl (by kernel_rfl) (by kernel_rfl) (by kernel_rfl) (fun _ _ _ h => h) (Or.inl ⟨by rfl, ?_⟩) hH ?_
      rotate_left
      · intro w hSw
        try dsimp only at hSw
        go_simp
        try with_reducible rfl
      simp only [LY]
      refine U_takeN (i := 1) (d := 70) (v := ?_) rfl rfl rfl (by kernel_rfl) (by kernel_rfl) (by kernel_rfl) (fun _ _ _ h => h) (Or.inl ⟨by rfl, ?_⟩) hH ?_
      rotate_left
      · intro w hSw
        try dsimp only at hSw
        go_simp
        try with_reducible rfl
      simp only [LY]
      refine U_takeN (i := 3) (d := 72) (v := ?_) rfl rfl rfl (by kernel_rfl) (by kernel_rfl) (by kernel_rfl) (fun _ _ _ h => h) (Or.inl ⟨by rfl, ?_⟩) hH ?_
      rotate_left
      · intro w hSw
        try dsimp only at hSw
        go_simp
        try with_reducible rfl
      simp only [LY]
      clear hH
      refine U_one (i := 2) (by kernel_rfl) rfl (fun K hK => ?_)
      go_simp
      (with_reducible refine (l1_Of_ _ O2.out HU.out).mono ?_)
      rintro e w12 ⟨_, rfl, h11, hb⟩
      obtain ⟨sh11, ah11, nh11, ch11, Ah11, Nh11, Ch11, rfl⟩ := h11.shape
      replace hs := bStep hs hb
      replace Blp := Blp.mono hb
      replace Blshare := Blshare.mono hb
      replace Blconfidence := Blconfidence.mono hb
      replace Blls := Blls.mono hb
      replace Blx := Blx.mono hb
      replace Bly := Bly.mono hb
      replace h7 := h7.mono hb
      replace h8 := h8.mono hb
      replace h9 := h9.mono hb
      replace h10 := h10.mono hb
      replace cshare_0 := cellK cshare_0 hb
      replace cshare_1 := cellK cshare_1 hb
      replace cconfidence_0 := cellK cconfidence_0 hb
      replace cconfidence_1 := cellK cconfidence_1 hb
      clear hb
      try go_wp2_with fail
      refine hK.out _ _ ⟨cshare_0, cshare_1, cconfidence_0, cconfidence_1⟩ (fun hH => ?_)
      clear hK K
      try simp only [LY]
      clear hH
      refine U_one (i := 4) (by kernel_rfl) rfl (fun K hK => ?_)
      go_simp
      (with_reducible refine (l1_Of_ _ O3.out HC.out).mono ?_)
      rintro e w13 ⟨_, rfl, h12, hb⟩
      obtain ⟨sh12, ah12, nh12, ch12, Ah12, Nh12, Ch12, rfl⟩ := h12.shape
      replace hs := bStep hs hb
      replace Blp := Blp.mono hb
      replace Blshare := Blshare.mono hb
      replace Blconfidence := Blconfidence.mono hb
      replace Blls := Blls.mono hb
      replace Blx := Blx.mono hb
      replace Bly := Bly.mono hb
      replace h7 := h7.mono hb
      replace h8 := h8.mono hb
      replace h9 := h9.mono hb
      replace h10 := h10.mono hb
      replace h11 := h11.mono hb
      replace cshare_0 := cellK cshare_0 hb
      replace cshare_1 := cellK cshare_1 hb
      replace cconfidence_0 := cellK cconfidence_0 hb
      replace cconfidence_1 := cellK cconfidence_1 hb
      clear hb
      try go_wp2_with fail
      refine hK.out _ _ ⟨cshare_0, cshare_1, cconfidence_0, cconfidence_1⟩ (fun hH => ?_)
      clear hK K
      try simp only [LY]
      clear hH
      refine U_one (i := 5) (by kernel_rfl) rfl (fun K hK => ?_)
      go_simp
      (with_reducible refine (al_Rank_all _ h11 su h12 sc HR.out HF.out).mono ?_)
      rintro e w14 ⟨rfl, hb⟩
      replace hs := bStep hs hb
      replace Blp := Blp.mono hb
      replace Blshare := Blshare.mono hb
      replace Blconfidence := Blconfidence.mono hb
      replace Blls := Blls.mono hb
      replace Blx := Blx.mono hb
      replace Bly := Bly.mono hb
      replace h7 := h7.mono hb
      replace h8 := h8.mono hb
      replace h9 := h9.mono hb
      replace h10 := h10.mono hb
      replace h11 := h11.mono hb
      replace h12 := h12.mono hb
      replace cshare_0 := cellK cshare_0 hb
      replace cshare_1 := cellK cshare_1 hb
      replace cconfidence_0 := cellK cconfidence_0 hb
      replace cconfidence_1 := cellK cconfidence_1 hb
      clear hb
      try go_wp2_with fail
      refine hK.out _ _ ⟨cshare_0, cshare_1, cconfidence_0, cconfidence_1⟩ (fun hH => ?_)
      clear hK K
      try simp only [LY]
      refine U_takeN (i := 6) (d := 68) (v := ?_) rfl rfl rfl (by kernel_rfl) (by kernel_rfl) (by kernel_rfl) (fun _ _ _ h => h) (Or.inl ⟨by rfl, ?_⟩) hH ?_
      rotate_left
      · intro w hSw
        try dsimp only at hSw
        go_simp
        try with_reducible rfl
      simp only [LY]
      refine U_takeN (i := 7) (d := 75) (v := ?_) rfl rfl rfl (by kernel_rfl) (by kernel_rfl) (by kernel_rfl) (fun _ _ _ h => h) (Or.inl ⟨by rfl, ?_⟩) hH ?_
      rotate_left
      · intro w hSw
        try dsimp only at hSw
        go_simp
        try with_reducible rfl
      simp only [LY]
      refine U_takeN (i := 8) (d := 76) (v := ?_) rfl rfl rfl (by kernel_rfl) (by kernel_rfl) (by kernel_rfl) (fun _ _ _ h => h) (Or.inl ⟨by rfl, ?_⟩) hH ?_
      rotate_left
      · intro w hSw
        try dsimp only at hSw
        go_simp
        try with_reducible rfl
      simp only [LY]
      refine U_takeN (i := 9) (d := 17) (v := ?_) rfl rfl rfl (by kernel_rfl) (by kernel_rfl) (by kernel_rfl) (fun _ _ _ h => h) (Or.inl ⟨by rfl, ?_⟩) hH ?_
      rotate_left
      · intro w hSw
        try dsimp only at hSw
        go_simp
        try with_reducible rfl
      simp only [LY]
      refine U_takeN (i := 10) (d := 18) (v := ?_) rfl rfl rfl (by kernel_rfl) (by kernel_rfl) (by kernel_rfl) (fun _ _ _ h => h) (Or.inl ⟨by rfl, ?_⟩) hH ?_
      rotate_left
      · intro w hSw
        try dsimp only at hSw
        go_simp
        try with_reducible rfl
      simp only [LY]
      clear hH
      refine U_endN (by kernel_rfl) ?_
      clear cshare_0 cshare_1 cconfidence_0 cconfidence_1
      go_upto_region 6 with fail
      refine U_region (S := fun w' => w'.cell? ⟨w.heap.size + 1, 0, none⟩ = some (.int .i64 n2) ∧ w'.cell? ⟨w.heap.size + 1, 1, none⟩ = some (.int .i64 d2) ∧ w'.cell? ⟨w.heap.size + 1 + 1, 0, none⟩ = some (.int .i64 n3) ∧ w'.cell? ⟨w.heap.size + 1 + 1, 1, none⟩ = some (.int .i64 d3)) (by kernel_rfl) 11 ?_
      refine AnyU.abs ?_
      intro w15 hW
      have hb : Below w14.heap.size w14 w15 := by rw [hW]; exact bDrew _
      replace hs := bStep hs hb
      replace Blp := Blp.mono hb
      replace Blshare := Blshare.mono hb
      replace Blconfidence := Blconfidence.mono hb
      replace Blls := Blls.mono hb
      replace Blx := Blx.mono hb
      replace Bly := Bly.mono hb
      replace h7 := h7.mono hb
      replace h8 := h8.mono hb
      replace h9 := h9.mono hb
      replace h10 := h10.mono hb
      replace h11 := h11.mono hb
      replace h12 := h12.mono hb
      clear hb hW
      have cshare_0 : w15.cell? ⟨w.heap.size + 1, 0, none⟩ = some (.int .i64 n2) := Blshare.at 0 rfl
      have cshare_1 : w15.cell? ⟨w.heap.size + 1, 1, none⟩ = some (.int .i64 d2) := Blshare.at 1 rfl
      have cconfidence_0 : w15.cell? ⟨w.heap.size + 1 + 1, 0, none⟩ = some (.int .i64 n3) := Blconfidence.at 0 rfl
      have cconfidence_1 : w15.cell? ⟨w.heap.size + 1 + 1, 1, none⟩ = some (.int .i64 d3) := Blconfidence.at 1 rfl
      have hH := (show w15.cell? ⟨w.heap.size + 1, 0, none⟩ = some (.int .i64 n2) ∧ w15.cell? ⟨w.heap.size + 1, 1, none⟩ = some (.int .i64 d2) ∧ w15.cell? ⟨w.heap.size + 1 + 1, 0, none⟩ = some (.int .i64 n3) ∧ w15.cell? ⟨w.heap.size + 1 + 1, 1, none⟩ = some (.int .i64 d3) from ⟨cshare_0, cshare_1, cconfidence_0, cconfidence_1⟩)
      refine U_takeN (i := 0) (d := 78) (v := ?_) rfl rfl rfl (by kernel_rfl) (by kernel_rfl) (by kernel_rfl) (fun _ _ _ h => h) (Or.inl ⟨by rfl, ?_⟩) hH ?_
      rotate_left
      · intro w hSw
        try dsimp only at hSw
        go_simp
        try with_reducible rfl
      simp only [LY]
      refine U_takeN (i := 1) (d := 79) (v := ?_) rfl rfl rfl (by kernel_rfl) (by kernel_rfl) (by kernel_rfl) (fun _ _ _ h => h) (Or.inl ⟨by rfl, ?_⟩) hH ?_
      rotate_left
      · intro w hSw
        try dsimp only at hSw
        go_simp
        try with_reducible rfl
      simp only [LY]
      refine U_takeN (i := 3) (d := 81) (v := ?_) rfl rfl rfl (by kernel_rfl) (by kernel_rfl) (by kernel_rfl) (fun _ _ _ h => h) (Or.inl ⟨by rfl, ?_⟩) hH ?_
      rotate_left
      · intro w hSw
        try dsimp only at hSw
        go_simp
        try with_reducible rfl
      simp only [LY]
      clear hH
      refine U_one (i := 2) (by kernel_rfl) rfl (fun K hK => ?_)
      go_simp
      (with_reducible refine (r1_Of_ _ O2.out HU.out).mono ?_)
      rintro e w16 ⟨_, rfl, h13, hb⟩
      obtain ⟨sh13, ah13, nh13, ch13, Ah13, Nh13, Ch13, rfl⟩ := h13.shape
      replace hs := bStep hs hb
      replace Blp := Blp.mono hb
      replace Blshare := Blshare.mono hb
      replace Blconfidence := Blconfidence.mono hb
      replace Blls := Blls.mono hb
      replace Blx := Blx.mono hb
      replace Bly := Bly.mono hb
      replace h7 := h7.mono hb
      replace h8 := h8.mono hb
      replace h9 := h9.mono hb
      replace h10 := h10.mono hb
      replace h11 := h11.mono hb
      replace h12 := h12.mono hb
      replace cshare_0 := cellK cshare_0 hb
      replace cshare_1 := cellK cshare_1 hb
      replace cconfidence_0 := cellK cconfidence_0 hb
      replace cconfidence_1 := cellK cconfidence_1 hb
      clear hb
      try go_wp2_with fail
      refine hK.out _ _ ⟨cshare_0, cshare_1, cconfidence_0, cconfidence_1⟩ (fun hH => ?_)
      clear hK K
      try simp only [LY]
      clear hH
      refine U_one (i := 4) (by kernel_rfl) rfl (fun K hK => ?_)
      go_simp
      (with_reducible refine (r1_Of_ _ O3.out HC.out).mono ?_)
      rintro e w17 ⟨_, rfl, h14, hb⟩
      obtain ⟨sh14, ah14, nh14, ch14, Ah14, Nh14, Ch14, rfl⟩ := h14.shape
      replace hs := bStep hs hb
      replace Blp := Blp.mono hb
      replace Blshare := Blshare.mono hb
      replace Blconfidence := Blconfidence.mono hb
      replace Blls := Blls.mono hb
      replace Blx := Blx.mono hb
      replace Bly := Bly.mono hb
      replace h7 := h7.mono hb
      replace h8 := h8.mono hb
      replace h9 := h9.mono hb
      replace h10 := h10.mono hb
      replace h11 := h11.mono hb
      replace h12 := h12.mono hb
      replace h13 := h13.mono hb
      replace cshare_0 := cellK cshare_0 hb
      replace cshare_1 := cellK cshare_1 hb
      replace cconfidence_0 := cellK cconfidence_0 hb
      replace cconfidence_1 := cellK cconfidence_1 hb
      clear hb
      try go_wp2_with fail
      refine hK.out _ _ ⟨cshare_0, cshare_1, cconfidence_0, cconfidence_1⟩ (fun hH => ?_)
      clear hK K
      try simp only [LY]
      clear hH
      refine U_one (i := 5) (by kernel_rfl) rfl (fun K hK => ?_)
      go_simp
      (with_reducible refine (r8_Rank_all _ h13 su h14 sc HR.out HF.out).mono ?_)
      rintro e w18 ⟨rfl, hb⟩
      replace hs := bStep hs hb
      replace Blp := Blp.mono hb
      replace Blshare := Blshare.mono hb
      replace Blconfidence := Blconfidence.mono hb
      replace Blls := Blls.mono hb
      replace Blx := Blx.mono hb
      replace Bly := Bly.mono hb
      replace h7 := h7.mono hb
      replace h8 := h8.mono hb
      replace h9 := h9.mono hb
      replace h10 := h10.mono hb
      replace h11 := h11.mono hb
      replace h12 := h12.mono hb
      replace h13 := h13.mono hb
      replace h14 := h14.mono hb
      replace cshare_0 := cellK cshare_0 hb
      replace cshare_1 := cellK cshare_1 hb
      replace cconfidence_0 := cellK cconfidence_0 hb
      replace cconfidence_1 := cellK cconfidence_1 hb
      clear hb
      try go_wp2_with fail
      refine hK.out _ _ ⟨cshare_0, cshare_1, cconfidence_0, cconfidence_1⟩ (fun hH => ?_)
      clear hK K
      try simp only [LY]
      refine U_takeN (i := 6) (d := 77) (v := ?_) rfl rfl rfl (by kernel_rfl) (by kernel_rfl) (by kernel_rfl) (fun _ _ _ h => h) (Or.inl ⟨by rfl, ?_⟩) hH ?_
      rotate_left
      · intro w hSw
        try dsimp only at hSw
        go_simp
        try with_reducible rfl
      simp only [LY]
      refine U_takeN (i := 7) (d := 84) (v := ?_) rfl rfl rfl (by kernel_rfl) (by kernel_rfl) (by kernel_rfl) (fun _ _ _ h => h) (Or.inl ⟨by rfl, ?_⟩) hH ?_
      rotate_left
      · intro w hSw
        try dsimp only at hSw
        go_simp
        try with_reducible rfl
      simp only [LY]
      refine U_takeN (i := 8) (d := 85) (v := ?_) rfl rfl rfl (by kernel_rfl) (by kernel_rfl) (by kernel_rfl) (fun _ _ _ h => h) (Or.inl ⟨by rfl, ?_⟩) hH ?_
      rotate_left
      · intro w hSw
        try dsimp only at hSw
        go_simp
        try with_reducible rfl
      simp only [LY]
      refine U_takeN (i := 9) (d := 19) (v := ?_) rfl rfl rfl (by kernel_rfl) (by kernel_rfl) (by kernel_rfl) (fun _ _ _ h => h) (Or.inl ⟨by rfl, ?_⟩) hH ?_
      rotate_left
      · intro w hSw
        try dsimp only at hSw
        go_simp
        try with_reducible rfl
      simp only [LY]
      refine U_takeN (i := 10) (d := 20) (v := ?_) rfl rfl rfl (by kernel_rfl) (by kernel_rfl) (by kernel_rfl) (fun _ _ _ h => h) (Or.inl ⟨by rfl, ?_⟩) hH ?_
      rotate_left
      · intro w hSw
        try dsimp only at hSw
        go_simp
        try with_reducible rfl
      simp only [LY]
      clear hH
      refine U_endN (by kernel_rfl) ?_
      clear cshare_0 cshare_1 cconfidence_0 cconfidence_1
      have q15b : (e == e) = true := beq_self_eq_true _
      have q15n : (e != e) = false := bne_self_eq_false _
      have q16b : (f == f) = true := beq_self_eq_true _
      have q16n : (f != f) = false := bne_self_eq_false _
      have cx_0 : w18.cell? ⟨w6.heap.size, 0, none⟩ = some (.bool sh8) := Blx.at 0 rfl
      have cx_1 : w18.cell? ⟨w6.heap.size, 1, none⟩ = some (.slice ah8 nh8 ch8) := Blx.at 1 rfl
      have cx_2 : w18.cell? ⟨w6.heap.size, 2, none⟩ = some (.slice Ah8 Nh8 Ch8) := Blx.at 2 rfl
      have Lx : w6.heap.size < w18.heap.size := Blx.lt
      have cy_0 : w18.cell? ⟨w9.heap.size, 0, none⟩ = some (.bool sh10) := Bly.at 0 rfl
      have cy_1 : w18.cell? ⟨w9.heap.size, 1, none⟩ = some (.slice ah10 nh10 ch10) := Bly.at 1 rfl
      have cy_2 : w18.cell? ⟨w9.heap.size, 2, none⟩ = some (.slice Ah10 Nh10 Ch10) := Bly.at 2 rfl
      have Ly : w9.heap.size < w18.heap.size := Bly.lt
      go_wp2_with fail
      clear cx_0 cx_1 cx_2 cy_0 cy_1 cy_2 Lx Ly
      with_reducible refine (l1_Is _ _ _ _ h8 h10 (SzQ.fit sq)).mono ?_
      rintro e w19 ⟨rfl, hb⟩
      replace hs := bStep hs hb
      replace Blp := Blp.mono hb
      replace Blshare := Blshare.mono hb
      replace Blconfidence := Blconfidence.mono hb
      replace Blls := Blls.mono hb
      replace Blx := Blx.mono hb
      replace Bly := Bly.mono hb
      replace h7 := h7.mono hb
      replace h8 := h8.mono hb
      replace h9 := h9.mono hb
      replace h10 := h10.mono hb
      replace h11 := h11.mono hb
      replace h12 := h12.mono hb
      replace h13 := h13.mono hb
      replace h14 := h14.mono hb
      clear hb
      have q17b : (r == r) = true := beq_self_eq_true _
      have q17n : (r != r) = false := bne_self_eq_false _
      have cshare_0 : w19.cell? ⟨w.heap.size + 1, 0, none⟩ = some (.int .i64 n2) := Blshare.at 0 rfl
      have cshare_1 : w19.cell? ⟨w.heap.size + 1, 1, none⟩ = some (.int .i64 d2) := Blshare.at 1 rfl
      have Lshare : w.heap.size + 1 < w19.heap.size := Blshare.lt
      have cconfidence_0 : w19.cell? ⟨w.heap.size + 1 + 1, 0, none⟩ = some (.int .i64 n3) := Blconfidence.at 0 rfl
      have cconfidence_1 : w19.cell? ⟨w.heap.size + 1 + 1, 1, none⟩ = some (.int .i64 d3) := Blconfidence.at 1 rfl
      have Lconfidence : w.heap.size + 1 + 1 < w19.heap.size := Blconfidence.lt
      have Lshare_0 : w.heap.size < w19.heap.size := by omega
      have Lconfidence_0 : w.heap.size + 1 < w19.heap.size := by omega
      go_wp2_with fail
      clear cshare_0 cshare_1 cconfidence_0 cconfidence_1 Lshare Lconfidence Lshare_0 Lconfidence_0
      refine Calls.abs ?_
      intro w20 hW
      have hG : Gr [] w19 w20 := by rw [hW]; exact (Gr.refl _ _).alloc
      have hbw : Below w.heap.size w19 w20 := hG.below0 hs.size
      have hk : KeepD w19 w20 := hG.keep True.intro
      have sz_w20 : w.heap.size ≤ w19.heap.size := hs.size
      have np_w20 : w.heap.size < w19.heap.size := Blp.lt
      have nshare_w20 : w.heap.size + 1 < w19.heap.size := Blshare.lt
      have nconfidence_w20 : w.heap.size + 1 + 1 < w19.heap.size := Blconfidence.lt
      have nls_w20 : w2.heap.size < w19.heap.size := Blls.lt
      have nx_w20 : w6.heap.size < w19.heap.size := Blx.lt
      have ny_w20 : w9.heap.size < w19.heap.size := Bly.lt
      have Blls6 : Bx w20 (w19.heap.size) 23 #[.int .i64 n2, .int .i64 d2, .int .i64 n3, .int .i64 d3] := by rw [hW]; exact (Bx.new0 _ _ _)
      replace hs := hs.trans hbw
      replace Blp := hG.bx Blp notMem0
      replace Blshare := hG.bx Blshare notMem0
      replace Blconfidence := hG.bx Blconfidence notMem0
      replace Blls := hG.bx Blls notMem0
      replace Blx := hG.bx Blx notMem0
      replace Bly := hG.bx Bly notMem0
      replace h7 := h7.keep hk
      replace h8 := h8.keep hk
      replace h9 := h9.keep hk
      replace h10 := h10.keep hk
      replace h11 := h11.keep hk
      replace h12 := h12.keep hk
      replace h13 := h13.keep hk
      replace h14 := h14.keep hk
      clear hW hG hk hbw
      have hz_w20 : w19.heap.size < w20.heap.size := Blls6.lt
      with_reducible refine (l8_small4 _ [(n2, d2), (n3, d3)] _ (rowsFt2 Blls6)).mono ?_
      rintro e w21 ⟨rfl, hb⟩
      replace hs := bStep hs hb
      replace Blp := Blp.mono hb
      replace Blshare := Blshare.mono hb
      replace Blconfidence := Blconfidence.mono hb
      replace Blls := Blls.mono hb
      replace Blx := Blx.mono hb
      replace Bly := Bly.mono hb
      replace Blls6 := Blls6.mono hb
      replace h7 := h7.mono hb
      replace h8 := h8.mono hb
      replace h9 := h9.mono hb
      replace h10 := h10.mono hb
      replace h11 := h11.mono hb
      replace h12 := h12.mono hb
      replace h13 := h13.mono hb
      replace h14 := h14.mono hb
      clear hb
      obtain ⟨b18, Hb18⟩ : ∃ b : Bool, b = [(n2, d2), (n3, d3)].all smF4 := ⟨_, rfl⟩
      rw [← Hb18]
      replace Hb18 := Lib.hid Hb18
      by_cases q19 : [(n2, d2), (n3, d3)].all smF4 = true
      · obtain rfl : b18 = true := by rw [Hb18.out]; exact q19
        have q19H := Lib.hid q19
        clear q19
        go_upto_region 11 with fail
        refine U_region (S := fun w' => w'.cell? ⟨w.heap.size + 1, 0, none⟩ = some (.int .i64 n2) ∧ w'.cell? ⟨w.heap.size + 1, 1, none⟩ = some (.int .i64 d2) ∧ w'.cell? ⟨w.heap.size + 1 + 1, 0, none⟩ = some (.int .i64 n3) ∧ w'.cell? ⟨w.heap.size + 1 + 1, 1, none⟩ = some (.int .i64 d3)) (by kernel_rfl) 11 ?_
        refine AnyU.abs ?_
        intro w22 hW
        have hb : Below w21.heap.size w21 w22 := by rw [hW]; exact bDrew _
        replace hs := bStep hs hb
        replace Blp := Blp.mono hb
        replace Blshare := Blshare.mono hb
        replace Blconfidence := Blconfidence.mono hb
        replace Blls := Blls.mono hb
        replace Blx := Blx.mono hb
        replace Bly := Bly.mono hb
        replace Blls6 := Blls6.mono hb
        replace h7 := h7.mono hb
        replace h8 := h8.mono hb
        replace h9 := h9.mono hb
        replace h10 := h10.mono hb
        replace h11 := h11.mono hb
        replace h12 := h12.mono hb
        replace h13 := h13.mono hb
        replace h14 := h14.mono hb
        clear hb hW
        have cshare_0 : w22.cell? ⟨w.heap.size + 1, 0, none⟩ = some (.int .i64 n2) := Blshare.at 0 rfl
        have cshare_1 : w22.cell? ⟨w.heap.size + 1, 1, none⟩ = some (.int .i64 d2) := Blshare.at 1 rfl
        have cconfidence_0 : w22.cell? ⟨w.heap.size + 1 + 1, 0, none⟩ = some (.int .i64 n3) := Blconfidence.at 0 rfl
        have cconfidence_1 : w22.cell? ⟨w.heap.size + 1 + 1, 1, none⟩ = some (.int .i64 d3) := Blconfidence.at 1 rfl
        have hH := (show w22.cell? ⟨w.heap.size + 1, 0, none⟩ = some (.int .i64 n2) ∧ w22.cell? ⟨w.heap.size + 1, 1, none⟩ = some (.int .i64 d2) ∧ w22.cell? ⟨w.heap.size + 1 + 1, 0, none⟩ = some (.int .i64 n3) ∧ w22.cell? ⟨w.heap.size + 1 + 1, 1, none⟩ = some (.int .i64 d3) from ⟨cshare_0, cshare_1, cconfidence_0, cconfidence_1⟩)
        refine U_takeN (i := 0) (d := 111) (v := ?_) rfl rfl rfl (by kernel_rfl) (by kernel_rfl) (by kernel_rfl) (fun _ _ _ h => h) (Or.inl ⟨by rfl, ?_⟩) hH ?_
        rotate_left
        · intro w hSw
          try dsimp only at hSw
          go_simp
          try with_reducible rfl
        simp only [LY]
        refine U_takeN (i := 1) (d := 112) (v := ?_) rfl rfl rfl (by kernel_rfl) (by kernel_rfl) (by kernel_rfl) (fun _ _ _ h => h) (Or.inl ⟨by rfl, ?_⟩) hH ?_
        rotate_left
        · intro w hSw
          try dsimp only at hSw
          go_simp
          try with_reducible rfl
        simp only [LY]
        refine U_takeN (i := 3) (d := 114) (v := ?_) rfl rfl rfl (by kernel_rfl) (by kernel_rfl) (by kernel_rfl) (fun _ _ _ h => h) (Or.inl ⟨by rfl, ?_⟩) hH ?_
        rotate_left
        · intro w hSw
          try dsimp only at hSw
          go_simp
          try with_reducible rfl
        simp only [LY]
        clear hH
        refine U_one (i := 2) (by kernel_rfl) rfl (fun K hK => ?_)
        go_simp
        (with_reducible refine (l1_Of_ _ O2.out HU.out).mono ?_)
        rintro e w23 ⟨_, rfl, h20, hb⟩
        obtain ⟨sh20, ah20, nh20, ch20, Ah20, Nh20, Ch20, rfl⟩ := h20.shape
        replace hs := bStep hs hb
        replace Blp := Blp.mono hb
        replace Blshare := Blshare.mono hb
        replace Blconfidence := Blconfidence.mono hb
        replace Blls := Blls.mono hb
        replace Blx := Blx.mono hb
        replace Bly := Bly.mono hb
        replace Blls6 := Blls6.mono hb
        replace h7 := h7.mono hb
        replace h8 := h8.mono hb
        replace h9 := h9.mono hb
        replace h10 := h10.mono hb
        replace h11 := h11.mono hb
        replace h12 := h12.mono hb
        replace h13 := h13.mono hb
        replace h14 := h14.mono hb
        replace cshare_0 := cellK cshare_0 hb
        replace cshare_1 := cellK cshare_1 hb
        replace cconfidence_0 := cellK cconfidence_0 hb
        replace cconfidence_1 := cellK cconfidence_1 hb
        clear hb
        try go_wp2_with fail
        refine hK.out _ _ ⟨cshare_0, cshare_1, cconfidence_0, cconfidence_1⟩ (fun hH => ?_)
        clear hK K
        try simp only [LY]
        clear hH
        refine U_one (i := 4) (by kernel_rfl) rfl (fun K hK => ?_)
        go_simp
        (with_reducible refine (l1_Of_ _ O3.out HC.out).mono ?_)
        rintro e w24 ⟨_, rfl, h21, hb⟩
        obtain ⟨sh21, ah21, nh21, ch21, Ah21, Nh21, Ch21, rfl⟩ := h21.shape
        replace hs := bStep hs hb
        replace Blp := Blp.mono hb
        replace Blshare := Blshare.mono hb
        replace Blconfidence := Blconfidence.mono hb
        replace Blls := Blls.mono hb
        replace Blx := Blx.mono hb
        replace Bly := Bly.mono hb
        replace Blls6 := Blls6.mono hb
        replace h7 := h7.mono hb
        replace h8 := h8.mono hb
        replace h9 := h9.mono hb
        replace h10 := h10.mono hb
        replace h11 := h11.mono hb
        replace h12 := h12.mono hb
        replace h13 := h13.mono hb
        replace h14 := h14.mono hb
        replace h20 := h20.mono hb
        replace cshare_0 := cellK cshare_0 hb
        replace cshare_1 := cellK cshare_1 hb
        replace cconfidence_0 := cellK cconfidence_0 hb
        replace cconfidence_1 := cellK cconfidence_1 hb
        clear hb
        try go_wp2_with fail
        refine hK.out _ _ ⟨cshare_0, cshare_1, cconfidence_0, cconfidence_1⟩ (fun hH => ?_)
        clear hK K
        try simp only [LY]
        clear hH
        refine U_one (i := 5) (by kernel_rfl) rfl (fun K hK => ?_)
        go_simp
        (with_reducible refine (al_Coupons_all _ h20 su h21 sc HD.out HG.out).mono ?_)
        rintro e w25 ⟨rfl, hb⟩
        replace hs := bStep hs hb
        replace Blp := Blp.mono hb
        replace Blshare := Blshare.mono hb
        replace Blconfidence := Blconfidence.mono hb
        replace Blls := Blls.mono hb
        replace Blx := Blx.mono hb
        replace Bly := Bly.mono hb
        replace Blls6 := Blls6.mono hb
        replace h7 := h7.mono hb
        replace h8 := h8.mono hb
        replace h9 := h9.mono hb
        replace h10 := h10.mono hb
        replace h11 := h11.mono hb
        replace h12 := h12.mono hb
        replace h13 := h13.mono hb
        replace h14 := h14.mono hb
        replace h20 := h20.mono hb
        replace h21 := h21.mono hb
        replace cshare_0 := cellK cshare_0 hb
        replace cshare_1 := cellK cshare_1 hb
        replace cconfidence_0 := cellK cconfidence_0 hb
        replace cconfidence_1 := cellK cconfidence_1 hb
        clear hb
        try go_wp2_with fail
        refine hK.out _ _ ⟨cshare_0, cshare_1, cconfidence_0, cconfidence_1⟩ (fun hH => ?_)
        clear hK K
        try simp only [LY]
        refine U_takeN (i := 6) (d := 110) (v := ?_) rfl rfl rfl (by kernel_rfl) (by kernel_rfl) (by kernel_rfl) (fun _ _ _ h => h) (Or.inl ⟨by rfl, ?_⟩) hH ?_
        rotate_left
        · intro w hSw
          try dsimp only at hSw
          go_simp
          try with_reducible rfl
        simp only [LY]
        refine U_takeN (i := 7) (d := 117) (v := ?_) rfl rfl rfl (by kernel_rfl) (by kernel_rfl) (by kernel_rfl) (fun _ _ _ h => h) (Or.inl ⟨by rfl, ?_⟩) hH ?_
        rotate_left
        · intro w hSw
          try dsimp only at hSw
          go_simp
          try with_reducible rfl
        simp only [LY]
        refine U_takeN (i := 8) (d := 118) (v := ?_) rfl rfl rfl (by kernel_rfl) (by kernel_rfl) (by kernel_rfl) (fun _ _ _ h => h) (Or.inl ⟨by rfl, ?_⟩) hH ?_
        rotate_left
        · intro w hSw
          try dsimp only at hSw
          go_simp
          try with_reducible rfl
        simp only [LY]
        refine U_takeN (i := 9) (d := 21) (v := ?_) rfl rfl rfl (by kernel_rfl) (by kernel_rfl) (by kernel_rfl) (fun _ _ _ h => h) (Or.inl ⟨by rfl, ?_⟩) hH ?_
        rotate_left
        · intro w hSw
          try dsimp only at hSw
          go_simp
          try with_reducible rfl
        simp only [LY]
        refine U_takeN (i := 10) (d := 22) (v := ?_) rfl rfl rfl (by kernel_rfl) (by kernel_rfl) (by kernel_rfl) (fun _ _ _ h => h) (Or.inl ⟨by rfl, ?_⟩) hH ?_
        rotate_left
        · intro w hSw
          try dsimp only at hSw
          go_simp
          try with_reducible rfl
        simp only [LY]
        clear hH
        refine U_endN (by kernel_rfl) ?_
        clear cshare_0 cshare_1 cconfidence_0 cconfidence_1
        go_upto_region 12 with fail
        refine U_region (S := fun w' => w'.cell? ⟨w.heap.size + 1, 0, none⟩ = some (.int .i64 n2) ∧ w'.cell? ⟨w.heap.size + 1, 1, none⟩ = some (.int .i64 d2) ∧ w'.cell? ⟨w.heap.size + 1 + 1, 0, none⟩ = some (.int .i64 n3) ∧ w'.cell? ⟨w.heap.size + 1 + 1, 1, none⟩ = some (.int .i64 d3)) (by kernel_rfl) 11 ?_
        refine AnyU.abs ?_
        intro w26 hW
        have hb : Below w25.heap.size w25 w26 := by rw [hW]; exact bDrew _
        replace hs := bStep hs hb
        replace Blp := Blp.mono hb
        replace Blshare := Blshare.mono hb
        replace Blconfidence := Blconfidence.mono hb
        replace Blls := Blls.mono hb
        replace Blx := Blx.mono hb
        replace Bly := Bly.mono hb
        replace Blls6 := Blls6.mono hb
        replace h7 := h7.mono hb
        replace h8 := h8.mono hb
        replace h9 := h9.mono hb
        replace h10 := h10.mono hb
        replace h11 := h11.mono hb
        replace h12 := h12.mono hb
        replace h13 := h13.mono hb
        replace h14 := h14.mono hb
        replace h20 := h20.mono hb
        replace h21 := h21.mono hb
        clear hb hW
        have cshare_0 : w26.cell? ⟨w.heap.size + 1, 0, none⟩ = some (.int .i64 n2) := Blshare.at 0 rfl
        have cshare_1 : w26.cell? ⟨w.heap.size + 1, 1, none⟩ = some (.int .i64 d2) := Blshare.at 1 rfl
        have cconfidence_0 : w26.cell? ⟨w.heap.size + 1 + 1, 0, none⟩ = some (.int .i64 n3) := Blconfidence.at 0 rfl
        have cconfidence_1 : w26.cell? ⟨w.heap.size + 1 + 1, 1, none⟩ = some (.int .i64 d3) := Blconfidence.at 1 rfl
        have hH := (show w26.cell? ⟨w.heap.size + 1, 0, none⟩ = some (.int .i64 n2) ∧ w26.cell? ⟨w.heap.size + 1, 1, none⟩ = some (.int .i64 d2) ∧ w26.cell? ⟨w.heap.size + 1 + 1, 0, none⟩ = some (.int .i64 n3) ∧ w26.cell? ⟨w.heap.size + 1 + 1, 1, none⟩ = some (.int .i64 d3) from ⟨cshare_0, cshare_1, cconfidence_0, cconfidence_1⟩)
        refine U_takeN (i := 0) (d := 120) (v := ?_) rfl rfl rfl (by kernel_rfl) (by kernel_rfl) (by kernel_rfl) (fun _ _ _ h => h) (Or.inl ⟨by rfl, ?_⟩) hH ?_
        rotate_left
        · intro w hSw
          try dsimp only at hSw
          go_simp
          try with_reducible rfl
        simp only [LY]
        refine U_takeN (i := 1) (d := 121) (v := ?_) rfl rfl rfl (by kernel_rfl) (by kernel_rfl) (by kernel_rfl) (fun _ _ _ h => h) (Or.inl ⟨by rfl, ?_⟩) hH ?_
        rotate_left
        · intro w hSw
          try dsimp only at hSw
          go_simp
          try with_reducible rfl
        simp only [LY]
        refine U_takeN (i := 3) (d := 123) (v := ?_) rfl rfl rfl (by kernel_rfl) (by kernel_rfl) (by kernel_rfl) (fun _ _ _ h => h) (Or.inl ⟨by rfl, ?_⟩) hH ?_
        rotate_left
        · intro w hSw
          try dsimp only at hSw
          go_simp
          try with_reducible rfl
        simp only [LY]
        clear hH
        refine U_one (i := 2) (by kernel_rfl) rfl (fun K hK => ?_)
        go_simp
        (with_reducible refine (r1_Of_ _ O2.out HU.out).mono ?_)
        rintro e w27 ⟨_, rfl, h22, hb⟩
        obtain ⟨sh22, ah22, nh22, ch22, Ah22, Nh22, Ch22, rfl⟩ := h22.shape
        replace hs := bStep hs hb
        replace Blp := Blp.mono hb
        replace Blshare := Blshare.mono hb
        replace Blconfidence := Blconfidence.mono hb
        replace Blls := Blls.mono hb
        replace Blx := Blx.mono hb
        replace Bly := Bly.mono hb
        replace Blls6 := Blls6.mono hb
        replace h7 := h7.mono hb
        replace h8 := h8.mono hb
        replace h9 := h9.mono hb
        replace h10 := h10.mono hb
        replace h11 := h11.mono hb
        replace h12 := h12.mono hb
        replace h13 := h13.mono hb
        replace h14 := h14.mono hb
        replace h20 := h20.mono hb
        replace h21 := h21.mono hb
        replace cshare_0 := cellK cshare_0 hb
        replace cshare_1 := cellK cshare_1 hb
        replace cconfidence_0 := cellK cconfidence_0 hb
        replace cconfidence_1 := cellK cconfidence_1 hb
        clear hb
        try go_wp2_with fail
        refine hK.out _ _ ⟨cshare_0, cshare_1, cconfidence_0, cconfidence_1⟩ (fun hH => ?_)
        clear hK K
        try simp only [LY]
        clear hH
        refine U_one (i := 4) (by kernel_rfl) rfl (fun K hK => ?_)
        go_simp
        (with_reducible refine (r1_Of_ _ O3.out HC.out).mono ?_)
        rintro e w28 ⟨_, rfl, h23, hb⟩
        obtain ⟨sh23, ah23, nh23, ch23, Ah23, Nh23, Ch23, rfl⟩ := h23.shape
        replace hs := bStep hs hb
        replace Blp := Blp.mono hb
        replace Blshare := Blshare.mono hb
        replace Blconfidence := Blconfidence.mono hb
        replace Blls := Blls.mono hb
        replace Blx := Blx.mono hb
        replace Bly := Bly.mono hb
        replace Blls6 := Blls6.mono hb
        replace h7 := h7.mono hb
        replace h8 := h8.mono hb
        replace h9 := h9.mono hb
        replace h10 := h10.mono hb
        replace h11 := h11.mono hb
        replace h12 := h12.mono hb
        replace h13 := h13.mono hb
        replace h14 := h14.mono hb
        replace h20 := h20.mono hb
        replace h21 := h21.mono hb
        replace h22 := h22.mono hb
        replace cshare_0 := cellK cshare_0 hb
        replace cshare_1 := cellK cshare_1 hb
        replace cconfidence_0 := cellK cconfidence_0 hb
        replace cconfidence_1 := cellK cconfidence_1 hb
        clear hb
        try go_wp2_with fail
        refine hK.out _ _ ⟨cshare_0, cshare_1, cconfidence_0, cconfidence_1⟩ (fun hH => ?_)
        clear hK K
        try simp only [LY]
        clear hH
        refine U_one (i := 5) (by kernel_rfl) rfl (fun K hK => ?_)
        go_simp
        (with_reducible refine (r8_Coupons_all _ h22 su h23 sc HD.out HG.out).mono ?_)
        rintro e w29 ⟨rfl, hb⟩
        replace hs := bStep hs hb
        replace Blp := Blp.mono hb
        replace Blshare := Blshare.mono hb
        replace Blconfidence := Blconfidence.mono hb
        replace Blls := Blls.mono hb
        replace Blx := Blx.mono hb
        replace Bly := Bly.mono hb
        replace Blls6 := Blls6.mono hb
        replace h7 := h7.mono hb
        replace h8 := h8.mono hb
        replace h9 := h9.mono hb
        replace h10 := h10.mono hb
        replace h11 := h11.mono hb
        replace h12 := h12.mono hb
        replace h13 := h13.mono hb
        replace h14 := h14.mono hb
        replace h20 := h20.mono hb
        replace h21 := h21.mono hb
        replace h22 := h22.mono hb
        replace h23 := h23.mono hb
        replace cshare_0 := cellK cshare_0 hb
        replace cshare_1 := cellK cshare_1 hb
        replace cconfidence_0 := cellK cconfidence_0 hb
        replace cconfidence_1 := cellK cconfidence_1 hb
        clear hb
        try go_wp2_with fail
        refine hK.out _ _ ⟨cshare_0, cshare_1, cconfidence_0, cconfidence_1⟩ (fun hH => ?_)
        clear hK K
        try simp only [LY]
        refine U_takeN (i := 6) (d := 119) (v := ?_) rfl rfl rfl (by kernel_rfl) (by kernel_rfl) (by kernel_rfl) (fun _ _ _ h => h) (Or.inl ⟨by rfl, ?_⟩) hH ?_
        rotate_left
        · intro w hSw
          try dsimp only at hSw
          go_simp
          try with_reducible rfl
        simp only [LY]
        refine U_takeN (i := 7) (d := 126) (v := ?_) rfl rfl rfl (by kernel_rfl) (by kernel_rfl) (by kernel_rfl) (fun _ _ _ h => h) (Or.inl ⟨by rfl, ?_⟩) hH ?_
        rotate_left
        · intro w hSw
          try dsimp only at hSw
          go_simp
          try with_reducible rfl
        simp only [LY]
        refine U_takeN (i := 8) (d := 127) (v := ?_) rfl rfl rfl (by kernel_rfl) (by kernel_rfl) (by kernel_rfl) (fun _ _ _ h => h) (Or.inl ⟨by rfl, ?_⟩) hH ?_
        rotate_left
        · intro w hSw
          try dsimp only at hSw
          go_simp
          try with_reducible rfl
        simp only [LY]
        refine U_takeN (i := 9) (d := 23) (v := ?_) rfl rfl rfl (by kernel_rfl) (by kernel_rfl) (by kernel_rfl) (fun _ _ _ h => h) (Or.inl ⟨by rfl, ?_⟩) hH ?_
        rotate_left
        · intro w hSw
          try dsimp only at hSw
          go_simp
          try with_reducible rfl
        simp only [LY]
        refine U_takeN (i := 10) (d := 24) (v := ?_) rfl rfl rfl (by kernel_rfl) (by kernel_rfl) (by kernel_rfl) (fun _ _ _ h => h) (Or.inl ⟨by rfl, ?_⟩) hH ?_
        rotate_left
        · intro w hSw
          try dsimp only at hSw
          go_simp
          try with_reducible rfl
        simp only [LY]
        clear hH
        refine U_endN (by kernel_rfl) ?_
        clear cshare_0 cshare_1 cconfidence_0 cconfidence_1
        have q24b : (d == d) = true := beq_self_eq_true _
        have q24n : (d != d) = false := bne_self_eq_false _
        have q25b : (g == g) = true := beq_self_eq_true _
        have q25n : (g != g) = false := bne_self_eq_false _
        go_wp2
        go_ret
        exact ⟨rfl, hs⟩
      · obtain rfl : b18 = false := by rw [Hb18.out]; simpa using q19
        have q19H := Lib.hid q19
        clear q19
        go_wp2
        go_ret
        exact ⟨rfl, hs⟩
    · have q5d : ((4 : Int) < m) = False := eq_false (by omega)
      have cp_0 : w4.cell? ⟨w.heap.size, 0, none⟩ = some (.int .i64 n1) := Blp.at 0 rfl
      have cp_1 : w4.cell? ⟨w.heap.size, 1, none⟩ = some (.int .i64 d1) := Blp.at 1 rfl
      have Lp : w.heap.size < w4.heap.size := Blp.lt
      go_wp2_with fail
      clear cp_0 cp_1 Lp
      with_reducible refine (l1_Of_ _ O1.out HP.out).mono ?_
      rintro e w5 ⟨_, rfl, h6, hb⟩
      obtain ⟨sh6, ah6, nh6, ch6, Ah6, Nh6, Ch6, rfl⟩ := h6.shape
      replace hs := bStep hs hb
      replace Blp := Blp.mono hb
      replace Blshare := Blshare.mono hb
      replace Blconfidence := Blconfidence.mono hb
      replace Blls := Blls.mono hb
      clear hb
      go_wp2_with fail
      with_reducible refine (al_Tail_all _ h6 sp (by omega) HQ.out HE.out).mono ?_
      rintro e w6 ⟨_, rfl, h7, hb⟩
      obtain ⟨sh7, ah7, nh7, ch7, Ah7, Nh7, Ch7, rfl⟩ := h7.shape
      replace hs := bStep hs hb
      replace Blp := Blp.mono hb
      replace Blshare := Blshare.mono hb
      replace Blconfidence := Blconfidence.mono hb
      replace Blls := Blls.mono hb
      replace h6 := h6.mono hb
      clear hb
      have cp_0 : w6.cell? ⟨w.heap.size, 0, none⟩ = some (.int .i64 n1) := Blp.at 0 rfl
      have cp_1 : w6.cell? ⟨w.heap.size, 1, none⟩ = some (.int .i64 d1) := Blp.at 1 rfl
      have Lp : w.heap.size < w6.heap.size := Blp.lt
      go_wp2_with fail
      clear cp_0 cp_1 Lp
      refine Calls.abs ?_
      intro w7 hW
      have hG : Gr [] w6 w7 := by rw [hW]; exact (Gr.refl _ _).alloc
      have hbw : Below w.heap.size w6 w7 := hG.below0 hs.size
      have hk : KeepD w6 w7 := hG.keep True.intro
      have sz_w7 : w.heap.size ≤ w6.heap.size := hs.size
      have np_w7 : w.heap.size < w6.heap.size := Blp.lt
      have nshare_w7 : w.heap.size + 1 < w6.heap.size := Blshare.lt
      have nconfidence_w7 : w.heap.size + 1 + 1 < w6.heap.size := Blconfidence.lt
      have nls_w7 : w2.heap.size < w6.heap.size := Blls.lt
      have Blx : Bx w7 (w6.heap.size) 29 #[.bool sh7, .slice ah7 nh7 ch7, .slice Ah7 Nh7 Ch7] := by rw [hW]; exact (Bx.new0 _ _ _)
      replace hs := hs.trans hbw
      replace Blp := hG.bx Blp notMem0
      replace Blshare := hG.bx Blshare notMem0
      replace Blconfidence := hG.bx Blconfidence notMem0
      replace Blls := hG.bx Blls notMem0
      replace h6 := h6.keep hk
      replace h7 := h7.keep hk
      clear hW hG hk hbw
      have hz_w7 : w6.heap.size < w7.heap.size := Blx.lt
      with_reducible refine (r1_Of_ _ O1.out HP.out).mono ?_
      rintro e w8 ⟨_, rfl, h8, hb⟩
      obtain ⟨sh8, ah8, nh8, ch8, Ah8, Nh8, Ch8, rfl⟩ := h8.shape
      replace hs := bStep hs hb
      replace Blp := Blp.mono hb
      replace Blshare := Blshare.mono hb
      replace Blconfidence := Blconfidence.mono hb
      replace Blls := Blls.mono hb
      replace Blx := Blx.mono hb
      replace h6 := h6.mono hb
      replace h7 := h7.mono hb
      clear hb
      go_wp2_with fail
      with_reducible refine (r8_Tail_all _ h8 sp (by omega) HQ.out HE.out).mono ?_
      rintro e w9 ⟨_, rfl, h9, hb⟩
      obtain ⟨sh9, ah9, nh9, ch9, Ah9, Nh9, Ch9, rfl⟩ := h9.shape
      replace hs := bStep hs hb
      replace Blp := Blp.mono hb
      replace Blshare := Blshare.mono hb
      replace Blconfidence := Blconfidence.mono hb
      replace Blls := Blls.mono hb
      replace Blx := Blx.mono hb
      replace h6 := h6.mono hb
      replace h7 := h7.mono hb
      replace h8 := h8.mono hb
      clear hb
      go_upto_region 5 with fail
      refine Code.abs ?_
      intro w10 hW
      have hG : Gr [] w9 w10 := by rw [hW]; exact (Gr.refl _ _).alloc
      have hbw : Below w.heap.size w9 w10 := hG.below0 hs.size
      have hk : KeepD w9 w10 := hG.keep True.intro
      have sz_w10 : w.heap.size ≤ w9.heap.size := hs.size
      have np_w10 : w.heap.size < w9.heap.size := Blp.lt
      have nshare_w10 : w.heap.size + 1 < w9.heap.size := Blshare.lt
      have nconfidence_w10 : w.heap.size + 1 + 1 < w9.heap.size := Blconfidence.lt
      have nls_w10 : w2.heap.size < w9.heap.size := Blls.lt
      have nx_w10 : w6.heap.size < w9.heap.size := Blx.lt
      have Bly : Bx w10 (w9.heap.size) 36 #[.bool sh9, .slice ah9 nh9 ch9, .slice Ah9 Nh9 Ch9] := by rw [hW]; exact (Bx.new0 _ _ _)
      replace hs := hs.trans hbw
      replace Blp := hG.bx Blp notMem0
      replace Blshare := hG.bx Blshare notMem0
      replace Blconfidence := hG.bx Blconfidence notMem0
      replace Blls := hG.bx Blls notMem0
      replace Blx := hG.bx Blx notMem0
      replace h6 := h6.keep hk
      replace h7 := h7.keep hk
      replace h8 := h8.keep hk
      replace h9 := h9.keep hk
      clear hW hG hk hbw
      have hz_w10 : w9.heap.size < w10.heap.size := Bly.lt
      refine U_region (S := fun w' => w'.cell? ⟨w.heap.size + 1, 0, none⟩ = some (.int .i64 n2) ∧ w'.cell? ⟨w.heap.size + 1, 1, none⟩ = some (.int .i64 d2) ∧ w'.cell? ⟨w.heap.size + 1 + 1, 0, none⟩ = some (.int .i64 n3) ∧ w'.cell? ⟨w.heap.size + 1 + 1, 1, none⟩ = some (.int .i64 d3)) (by kernel_rfl) 11 ?_
      refine AnyU.abs ?_
      intro w11 hW
      have hb : Below w10.heap.size w10 w11 := by rw [hW]; exact bDrew _
      replace hs := bStep hs hb
      replace Blp := Blp.mono hb
      replace Blshare := Blshare.mono hb
      replace Blconfidence := Blconfidence.mono hb
      replace Blls := Blls.mono hb
      replace Blx := Blx.mono hb
      replace Bly := Bly.mono hb
      replace h6 := h6.mono hb
      replace h7 := h7.mono hb
      replace h8 := h8.mono hb
      replace h9 := h9.mono hb
      clear hb hW
      have cshare_0 : w11.cell? ⟨w.heap.size + 1, 0, none⟩ = some (.int .i64 n2) := Blshare.at 0 rfl
      have cshare_1 : w11.cell? ⟨w.heap.size + 1, 1, none⟩ = some (.int .i64 d2) := Blshare.at 1 rfl
      have cconfidence_0 : w11.cell? ⟨w.heap.size + 1 + 1, 0, none⟩ = some (.int .i64 n3) := Blconfidence.at 0 rfl
      have cconfidence_1 : w11.cell? ⟨w.heap.size + 1 + 1, 1, none⟩ = some (.int .i64 d3) := Blconfidence.at 1 rfl
      have hH := (show w11.cell? ⟨w.heap.size + 1, 0, none⟩ = some (.int .i64 n2) ∧ w11.cell? ⟨w.heap.size + 1, 1, none⟩ = some (.int .i64 d2) ∧ w11.cell? ⟨w.heap.size + 1 + 1, 0, none⟩ = some (.int .i64 n3) ∧ w11.cell? ⟨w.heap.size + 1 + 1, 1, none⟩ = some (.int .i64 d3) from ⟨cshare_0, cshare_1, cconfidence_0, cconfidence_1⟩)
      refine U_takeN (i := 0) (d := 69) (v := ?_) rfl rfl rfl (by kernel_rfl) (by kernel_rfl) (by kernel_rfl) (fun _ _ _ h => h) (Or.inl ⟨by rfl, ?_⟩) hH ?_
      rotate_left
      · intro w hSw
        try dsimp only at hSw
        go_simp
        try with_reducible rfl
      simp only [LY]
      refine U_takeN (i := 1) (d := 70) (v := ?_) rfl rfl rfl (by kernel_rfl) (by kernel_rfl) (by kernel_rfl) (fun _ _ _ h => h) (Or.inl ⟨by rfl, ?_⟩) hH ?_
      rotate_left
      · intro w hSw
        try dsimp only at hSw
        go_simp
        try with_reducible rfl
      simp only [LY]
      refine U_takeN (i := 3) (d := 72) (v := ?_) rfl rfl rfl (by kernel_rfl) (by kernel_rfl) (by kernel_rfl) (fun _ _ _ h => h) (Or.inl ⟨by rfl, ?_⟩) hH ?_
      rotate_left
      · intro w hSw
        try dsimp only at hSw
        go_simp
        try with_reducible rfl
      simp only [LY]
      clear hH
      refine U_one (i := 2) (by kernel_rfl) rfl (fun K hK => ?_)
      go_simp
      (with_reducible refine (l1_Of_ _ O2.out HU.out).mono ?_)
      rintro e w12 ⟨_, rfl, h10, hb⟩
      obtain ⟨sh10, ah10, nh10, ch10, Ah10, Nh10, Ch10, rfl⟩ := h10.shape
      replace hs := bStep hs hb
      replace Blp := Blp.mono hb
      replace Blshare := Blshare.mono hb
      replace Blconfidence := Blconfidence.mono hb
      replace Blls := Blls.mono hb
      replace Blx := Blx.mono hb
      replace Bly := Bly.mono hb
      replace h6 := h6.mono hb
      replace h7 := h7.mono hb
      replace h8 := h8.mono hb
      replace h9 := h9.mono hb
      replace cshare_0 := cellK cshare_0 hb
      replace cshare_1 := cellK cshare_1 hb
      replace cconfidence_0 := cellK cconfidence_0 hb
      replace cconfidence_1 := cellK cconfidence_1 hb
      clear hb
      try go_wp2_with fail
      refine hK.out _ _ ⟨cshare_0, cshare_1, cconfidence_0, cconfidence_1⟩ (fun hH => ?_)
      clear hK K
      try simp only [LY]
      clear hH
      refine U_one (i := 4) (by kernel_rfl) rfl (fun K hK => ?_)
      go_simp
      (with_reducible refine (l1_Of_ _ O3.out HC.out).mono ?_)
      rintro e w13 ⟨_, rfl, h11, hb⟩
      obtain ⟨sh11, ah11, nh11, ch11, Ah11, Nh11, Ch11, rfl⟩ := h11.shape
      replace hs := bStep hs hb
      replace Blp := Blp.mono hb
      replace Blshare := Blshare.mono hb
      replace Blconfidence := Blconfidence.mono hb
      replace Blls := Blls.mono hb
      replace Blx := Blx.mono hb
      replace Bly := Bly.mono hb
      replace h6 := h6.mono hb
      replace h7 := h7.mono hb
      replace h8 := h8.mono hb
      replace h9 := h9.mono hb
      replace h10 := h10.mono hb
      replace cshare_0 := cellK cshare_0 hb
      replace cshare_1 := cellK cshare_1 hb
      replace cconfidence_0 := cellK cconfidence_0 hb
      replace cconfidence_1 := cellK cconfidence_1 hb
      clear hb
      try go_wp2_with fail
      refine hK.out _ _ ⟨cshare_0, cshare_1, cconfidence_0, cconfidence_1⟩ (fun hH => ?_)
      clear hK K
      try simp only [LY]
      clear hH
      refine U_one (i := 5) (by kernel_rfl) rfl (fun K hK => ?_)
      go_simp
      (with_reducible refine (al_Rank_all _ h10 su h11 sc HR.out HF.out).mono ?_)
      rintro e w14 ⟨rfl, hb⟩
      replace hs := bStep hs hb
      replace Blp := Blp.mono hb
      replace Blshare := Blshare.mono hb
      replace Blconfidence := Blconfidence.mono hb
      replace Blls := Blls.mono hb
      replace Blx := Blx.mono hb
      replace Bly := Bly.mono hb
      replace h6 := h6.mono hb
      replace h7 := h7.mono hb
      replace h8 := h8.mono hb
      replace h9 := h9.mono hb
      replace h10 := h10.mono hb
      replace h11 := h11.mono hb
      replace cshare_0 := cellK cshare_0 hb
      replace cshare_1 := cellK cshare_1 hb
      replace cconfidence_0 := cellK cconfidence_0 hb
      replace cconfidence_1 := cellK cconfidence_1 hb
      clear hb
      try go_wp2_with fail
      refine hK.out _ _ ⟨cshare_0, cshare_1, cconfidence_0, cconfidence_1⟩ (fun hH => ?_)
      clear hK K
      try simp only [LY]
      refine U_takeN (i := 6) (d := 68) (v := ?_) rfl rfl rfl (by kernel_rfl) (by kernel_rfl) (by kernel_rfl) (fun _ _ _ h => h) (Or.inl ⟨by rfl, ?_⟩) hH ?_
      rotate_left
      · intro w hSw
        try dsimp only at hSw
        go_simp
        try with_reducible rfl
      simp only [LY]
      refine U_takeN (i := 7) (d := 75) (v := ?_) rfl rfl rfl (by kernel_rfl) (by kernel_rfl) (by kernel_rfl) (fun _ _ _ h => h) (Or.inl ⟨by rfl, ?_⟩) hH ?_
      rotate_left
      · intro w hSw
        try dsimp only at hSw
        go_simp
        try with_reducible rfl
      simp only [LY]
      refine U_takeN (i := 8) (d := 76) (v := ?_) rfl rfl rfl (by kernel_rfl) (by kernel_rfl) (by kernel_rfl) (fun _ _ _ h => h) (Or.inl ⟨by rfl, ?_⟩) hH ?_
      rotate_left
      · intro w hSw
        try dsimp only at hSw
        go_simp
        try with_reducible rfl
      simp only [LY]
      refine U_takeN (i := 9) (d := 17) (v := ?_) rfl rfl rfl (by kernel_rfl) (by kernel_rfl) (by kernel_rfl) (fun _ _ _ h => h) (Or.inl ⟨by rfl, ?_⟩) hH ?_
      rotate_left
      · intro w hSw
        try dsimp only at hSw
        go_simp
        try with_reducible rfl
      simp only [LY]
      refine U_takeN (i := 10) (d := 18) (v := ?_) rfl rfl rfl (by kernel_rfl) (by kernel_rfl) (by kernel_rfl) (fun _ _ _ h => h) (Or.inl ⟨by rfl, ?_⟩) hH ?_
      rotate_left
      · intro w hSw
        try dsimp only at hSw
        go_simp
        try with_reducible rfl
      simp only [LY]
      clear hH
      refine U_endN (by kernel_rfl) ?_
      clear cshare_0 cshare_1 cconfidence_0 cconfidence_1
      go_upto_region 6 with fail
      refine U_region (S := fun w' => w'.cell? ⟨w.heap.size + 1, 0, none⟩ = some (.int .i64 n2) ∧ w'.cell? ⟨w.heap.size + 1, 1, none⟩ = some (.int .i64 d2) ∧ w'.cell? ⟨w.heap.size + 1 + 1, 0, none⟩ = some (.int .i64 n3) ∧ w'.cell? ⟨w.heap.size + 1 + 1, 1, none⟩ = some (.int .i64 d3)) (by kernel_rfl) 11 ?_
      refine AnyU.abs ?_
      intro w15 hW
      have hb : Below w14.heap.size w14 w15 := by rw [hW]; exact bDrew _
      replace hs := bStep hs hb
      replace Blp := Blp.mono hb
      replace Blshare := Blshare.mono hb
      replace Blconfidence := Blconfidence.mono hb
      replace Blls := Blls.mono hb
      replace Blx := Blx.mono hb
      replace Bly := Bly.mono hb
      replace h6 := h6.mono hb
      replace h7 := h7.mono hb
      replace h8 := h8.mono hb
      replace h9 := h9.mono hb
      replace h10 := h10.mono hb
      replace h11 := h11.mono hb
      clear hb hW
      have cshare_0 : w15.cell? ⟨w.heap.size + 1, 0, none⟩ = some (.int .i64 n2) := Blshare.at 0 rfl
      have cshare_1 : w15.cell? ⟨w.heap.size + 1, 1, none⟩ = some (.int .i64 d2) := Blshare.at 1 rfl
      have cconfidence_0 : w15.cell? ⟨w.heap.size + 1 + 1, 0, none⟩ = some (.int .i64 n3) := Blconfidence.at 0 rfl
      have cconfidence_1 : w15.cell? ⟨w.heap.size + 1 + 1, 1, none⟩ = some (.int .i64 d3) := Blconfidence.at 1 rfl
      have hH := (show w15.cell? ⟨w.heap.size + 1, 0, none⟩ = some (.int .i64 n2) ∧ w15.cell? ⟨w.heap.size + 1, 1, none⟩ = some (.int .i64 d2) ∧ w15.cell? ⟨w.heap.size + 1 + 1, 0, none⟩ = some (.int .i64 n3) ∧ w15.cell? ⟨w.heap.size + 1 + 1, 1, none⟩ = some (.int .i64 d3) from ⟨cshare_0, cshare_1, cconfidence_0, cconfidence_1⟩)
      refine U_takeN (i := 0) (d := 78) (v := ?_) rfl rfl rfl (by kernel_rfl) (by kernel_rfl) (by kernel_rfl) (fun _ _ _ h => h) (Or.inl ⟨by rfl, ?_⟩) hH ?_
      rotate_left
      · intro w hSw
        try dsimp only at hSw
        go_simp
        try with_reducible rfl
      simp only [LY]
      refine U_takeN (i := 1) (d := 79) (v := ?_) rfl rfl rfl (by kernel_rfl) (by kernel_rfl) (by kernel_rfl) (fun _ _ _ h => h) (Or.inl ⟨by rfl, ?_⟩) hH ?_
      rotate_left
      · intro w hSw
        try dsimp only at hSw
        go_simp
        try with_reducible rfl
      simp only [LY]
      refine U_takeN (i := 3) (d := 81) (v := ?_) rfl rfl rfl (by kernel_rfl) (by kernel_rfl) (by kernel_rfl) (fun _ _ _ h => h) (Or.inl ⟨by rfl, ?_⟩) hH ?_
      rotate_left
      · intro w hSw
        try dsimp only at hSw
        go_simp
        try with_reducible rfl
      simp only [LY]
      clear hH
      refine U_one (i := 2) (by kernel_rfl) rfl (fun K hK => ?_)
      go_simp
      (with_reducible refine (r1_Of_ _ O2.out HU.out).mono ?_)
      rintro e w16 ⟨_, rfl, h12, hb⟩
      obtain ⟨sh12, ah12, nh12, ch12, Ah12, Nh12, Ch12, rfl⟩ := h12.shape
      replace hs := bStep hs hb
      replace Blp := Blp.mono hb
      replace Blshare := Blshare.mono hb
      replace Blconfidence := Blconfidence.mono hb
      replace Blls := Blls.mono hb
      replace Blx := Blx.mono hb
      replace Bly := Bly.mono hb
      replace h6 := h6.mono hb
      replace h7 := h7.mono hb
      replace h8 := h8.mono hb
      replace h9 := h9.mono hb
      replace h10 := h10.mono hb
      replace h11 := h11.mono hb
      replace cshare_0 := cellK cshare_0 hb
      replace cshare_1 := cellK cshare_1 hb
      replace cconfidence_0 := cellK cconfidence_0 hb
      replace cconfidence_1 := cellK cconfidence_1 hb
      clear hb
      try go_wp2_with fail
      refine hK.out _ _ ⟨cshare_0, cshare_1, cconfidence_0, cconfidence_1⟩ (fun hH => ?_)
      clear hK K
      try simp only [LY]
      clear hH
      refine U_one (i := 4) (by kernel_rfl) rfl (fun K hK => ?_)
      go_simp
      (with_reducible refine (r1_Of_ _ O3.out HC.out).mono ?_)
      rintro e w17 ⟨_, rfl, h13, hb⟩
      obtain ⟨sh13, ah13, nh13, ch13, Ah13, Nh13, Ch13, rfl⟩ := h13.shape
      replace hs := bStep hs hb
      replace Blp := Blp.mono hb
      replace Blshare := Blshare.mono hb
      replace Blconfidence := Blconfidence.mono hb
      replace Blls := Blls.mono hb
      replace Blx := Blx.mono hb
      replace Bly := Bly.mono hb
      replace h6 := h6.mono hb
      replace h7 := h7.mono hb
      replace h8 := h8.mono hb
      replace h9 := h9.mono hb
      replace h10 := h10.mono hb
      replace h11 := h11.mono hb
      replace h12 := h12.mono hb
      replace cshare_0 := cellK cshare_0 hb
      replace cshare_1 := cellK cshare_1 hb
      replace cconfidence_0 := cellK cconfidence_0 hb
      replace cconfidence_1 := cellK cconfidence_1 hb
      clear hb
      try go_wp2_with fail
      refine hK.out _ _ ⟨cshare_0, cshare_1, cconfidence_0, cconfidence_1⟩ (fun hH => ?_)
      clear hK K
      try simp only [LY]
      clear hH
      refine U_one (i := 5) (by kernel_rfl) rfl (fun K hK => ?_)
      go_simp
      (with_reducible refine (r8_Rank_all _ h12 su h13 sc HR.out HF.out).mono ?_)
      rintro e w18 ⟨rfl, hb⟩
      replace hs := bStep hs hb
      replace Blp := Blp.mono hb
      replace Blshare := Blshare.mono hb
      replace Blconfidence := Blconfidence.mono hb
      replace Blls := Blls.mono hb
      replace Blx := Blx.mono hb
      replace Bly := Bly.mono hb
      replace h6 := h6.mono hb
      replace h7 := h7.mono hb
      replace h8 := h8.mono hb
      replace h9 := h9.mono hb
      replace h10 := h10.mono hb
      replace h11 := h11.mono hb
      replace h12 := h12.mono hb
      replace h13 := h13.mono hb
      replace cshare_0 := cellK cshare_0 hb
      replace cshare_1 := cellK cshare_1 hb
      replace cconfidence_0 := cellK cconfidence_0 hb
      replace cconfidence_1 := cellK cconfidence_1 hb
      clear hb
      try go_wp2_with fail
      refine hK.out _ _ ⟨cshare_0, cshare_1, cconfidence_0, cconfidence_1⟩ (fun hH => ?_)
      clear hK K
      try simp only [LY]
      refine U_takeN (i := 6) (d := 77) (v := ?_) rfl rfl rfl (by kernel_rfl) (by kernel_rfl) (by kernel_rfl) (fun _ _ _ h => h) (Or.inl ⟨by rfl, ?_⟩) hH ?_
      rotate_left
      · intro w hSw
        try dsimp only at hSw
        go_simp
        try with_reducible rfl
      simp only [LY]
      refine U_takeN (i := 7) (d := 84) (v := ?_) rfl rfl rfl (by kernel_rfl) (by kernel_rfl) (by kernel_rfl) (fun _ _ _ h => h) (Or.inl ⟨by rfl, ?_⟩) hH ?_
      rotate_left
      · intro w hSw
        try dsimp only at hSw
        go_simp
        try with_reducible rfl
      simp only [LY]
      refine U_takeN (i := 8) (d := 85) (v := ?_) rfl rfl rfl (by kernel_rfl) (by kernel_rfl) (by kernel_rfl) (fun _ _ _ h => h) (Or.inl ⟨by rfl, ?_⟩) hH ?_
      rotate_left
      · intro w hSw
        try dsimp only at hSw
        go_simp
        try with_reducible rfl
      simp only [LY]
      refine U_takeN (i := 9) (d := 19) (v := ?_) rfl rfl rfl (by kernel_rfl) (by kernel_rfl) (by kernel_rfl) (fun _ _ _ h => h) (Or.inl ⟨by rfl, ?_⟩) hH ?_
      rotate_left
      · intro w hSw
        try dsimp only at hSw
        go_simp
        try with_reducible rfl
      simp only [LY]
      refine U_takeN (i := 10) (d := 20) (v := ?_) rfl rfl rfl (by kernel_rfl) (by kernel_rfl) (by kernel_rfl) (fun _ _ _ h => h) (Or.inl ⟨by rfl, ?_⟩) hH ?_
      rotate_left
      · intro w hSw
        try dsimp only at hSw
        go_simp
        try with_reducible rfl
      simp only [LY]
      clear hH
      refine U_endN (by kernel_rfl) ?_
      clear cshare_0 cshare_1 cconfidence_0 cconfidence_1
      have q14b : (e == e) = true := beq_self_eq_true _
      have q14n : (e != e) = false := bne_self_eq_false _
      have q15b : (f == f) = true := beq_self_eq_true _
      have q15n : (f != f) = false := bne_self_eq_false _
      have cx_0 : w18.cell? ⟨w6.heap.size, 0, none⟩ = some (.bool sh7) := Blx.at 0 rfl
      have cx_1 : w18.cell? ⟨w6.heap.size, 1, none⟩ = some (.slice ah7 nh7 ch7) := Blx.at 1 rfl
      have cx_2 : w18.cell? ⟨w6.heap.size, 2, none⟩ = some (.slice Ah7 Nh7 Ch7) := Blx.at 2 rfl
      have Lx : w6.heap.size < w18.heap.size := Blx.lt
      have cy_0 : w18.cell? ⟨w9.heap.size, 0, none⟩ = some (.bool sh9) := Bly.at 0 rfl
      have cy_1 : w18.cell? ⟨w9.heap.size, 1, none⟩ = some (.slice ah9 nh9 ch9) := Bly.at 1 rfl
      have cy_2 : w18.cell? ⟨w9.heap.size, 2, none⟩ = some (.slice Ah9 Nh9 Ch9) := Bly.at 2 rfl
      have Ly : w9.heap.size < w18.heap.size := Bly.lt
      go_wp2_with fail
      clear cx_0 cx_1 cx_2 cy_0 cy_1 cy_2 Lx Ly
      with_reducible refine (l1_Is _ _ _ _ h7 h9 (SzQ.fit sq)).mono ?_
      rintro e w19 ⟨rfl, hb⟩
      replace hs := bStep hs hb
      replace Blp := Blp.mono hb
      replace Blshare := Blshare.mono hb
      replace Blconfidence := Blconfidence.mono hb
      replace Blls := Blls.mono hb
      replace Blx := Blx.mono hb
      replace Bly := Bly.mono hb
      replace h6 := h6.mono hb
      replace h7 := h7.mono hb
      replace h8 := h8.mono hb
      replace h9 := h9.mono hb
      replace h10 := h10.mono hb
      replace h11 := h11.mono hb
      replace h12 := h12.mono hb
      replace h13 := h13.mono hb
      clear hb
      have q16b : (r == r) = true := beq_self_eq_true _
      have q16n : (r != r) = false := bne_self_eq_false _
      have cshare_0 : w19.cell? ⟨w.heap.size + 1, 0, none⟩ = some (.int .i64 n2) := Blshare.at 0 rfl
      have cshare_1 : w19.cell? ⟨w.heap.size + 1, 1, none⟩ = some (.int .i64 d2) := Blshare.at 1 rfl
      have Lshare : w.heap.size + 1 < w19.heap.size := Blshare.lt
      have cconfidence_0 : w19.cell? ⟨w.heap.size + 1 + 1, 0, none⟩ = some (.int .i64 n3) := Blconfidence.at 0 rfl
      have cconfidence_1 : w19.cell? ⟨w.heap.size + 1 + 1, 1, none⟩ = some (.int .i64 d3) := Blconfidence.at 1 rfl
      have Lconfidence : w.heap.size + 1 + 1 < w19.heap.size := Blconfidence.lt
      have Lshare_0 : w.heap.size < w19.heap.size := by omega
      have Lconfidence_0 : w.heap.size + 1 < w19.heap.size := by omega
      go_wp2_with fail
      clear cshare_0 cshare_1 cconfidence_0 cconfidence_1 Lshare Lconfidence Lshare_0 Lconfidence_0
      refine Calls.abs ?_
      intro w20 hW
      have hG : Gr [] w19 w20 := by rw [hW]; exact (Gr.refl _ _).alloc
      have hbw : Below w.heap.size w19 w20 := hG.below0 hs.size
      have hk : KeepD w19 w20 := hG.keep True.intro
      have sz_w20 : w.heap.size ≤ w19.heap.size := hs.size
      have np_w20 : w.heap.size < w19.heap.size := Blp.lt
      have nshare_w20 : w.heap.size + 1 < w19.heap.size := Blshare.lt
      have nconfidence_w20 : w.heap.size + 1 + 1 < w19.heap.size := Blconfidence.lt
      have nls_w20 : w2.heap.size < w19.heap.size := Blls.lt
      have nx_w20 : w6.heap.size < w19.heap.size := Blx.lt
      have ny_w20 : w9.heap.size < w19.heap.size := Bly.lt
      have Blls6 : Bx w20 (w19.heap.size) 23 #[.int .i64 n2, .int .i64 d2, .int .i64 n3, .int .i64 d3] := by rw [hW]; exact (Bx.new0 _ _ _)
      replace hs := hs.trans hbw
      replace Blp := hG.bx Blp notMem0
      replace Blshare := hG.bx Blshare notMem0
      replace Blconfidence := hG.bx Blconfidence notMem0
      replace Blls := hG.bx Blls notMem0
      replace Blx := hG.bx Blx notMem0
      replace Bly := hG.bx Bly notMem0
      replace h6 := h6.keep hk
      replace h7 := h7.keep hk
      replace h8 := h8.keep hk
      replace h9 := h9.keep hk
      replace h10 := h10.keep hk
      replace h11 := h11.keep hk
      replace h12 := h12.keep hk
      replace h13 := h13.keep hk
      clear hW hG hk hbw
      have hz_w20 : w19.heap.size < w20.heap.size := Blls6.lt
      with_reducible refine (l8_small4 _ [(n2, d2), (n3, d3)] _ (rowsFt2 Blls6)).mono ?_
      rintro e w21 ⟨rfl, hb⟩
      replace hs := bStep hs hb
      replace Blp := Blp.mono hb
      replace Blshare := Blshare.mono hb
      replace Blconfidence := Blconfidence.mono hb
      replace Blls := Blls.mono hb
      replace Blx := Blx.mono hb
      replace Bly := Bly.mono hb
      replace Blls6 := Blls6.mono hb
      replace h6 := h6.mono hb
      replace h7 := h7.mono hb
      replace h8 := h8.mono hb
      replace h9 := h9.mono hb
      replace h10 := h10.mono hb
      replace h11 := h11.mono hb
      replace h12 := h12.mono hb
      replace h13 := h13.mono hb
      clear hb
      obtain ⟨b17, Hb17⟩ : ∃ b : Bool, b = [(n2, d2), (n3, d3)].all smF4 := ⟨_, rfl⟩
      rw [← Hb17]
      replace Hb17 := Lib.hid Hb17
      by_cases q18 : [(n2, d2), (n3, d3)].all smF4 = true
      · obtain rfl : b17 = true := by rw [Hb17.out]; exact q18
        have q18H := Lib.hid q18
        clear q18
        go_upto_region 11 with fail
        refine U_region (S := fun w' => w'.cell? ⟨w.heap.size + 1, 0, none⟩ = some (.int .i64 n2) ∧ w'.cell? ⟨w.heap.size + 1, 1, none⟩ = some (.int .i64 d2) ∧ w'.cell? ⟨w.heap.size + 1 + 1, 0, none⟩ = some (.int .i64 n3) ∧ w'.cell? ⟨w.heap.size + 1 + 1, 1, none⟩ = some (.int .i64 d3)) (by kernel_rfl) 11 ?_
        refine AnyU.abs ?_
        intro w22 hW
        have hb : Below w21.heap.size w21 w22 := by rw [hW]; exact bDrew _
        replace hs := bStep hs hb
        replace Blp := Blp.mono hb
        replace Blshare := Blshare.mono hb
        replace Blconfidence := Blconfidence.mono hb
        replace Blls := Blls.mono hb
        replace Blx := Blx.mono hb
        replace Bly := Bly.mono hb
        replace Blls6 := Blls6.mono hb
        replace h6 := h6.mono hb
        replace h7 := h7.mono hb
        replace h8 := h8.mono hb
        replace h9 := h9.mono hb
        replace h10 := h10.mono hb
        replace h11 := h11.mono hb
        replace h12 := h12.mono hb
        replace h13 := h13.mono hb
        clear hb hW
        have cshare_0 : w22.cell? ⟨w.heap.size + 1, 0, none⟩ = some (.int .i64 n2) := Blshare.at 0 rfl
        have cshare_1 : w22.cell? ⟨w.heap.size + 1, 1, none⟩ = some (.int .i64 d2) := Blshare.at 1 rfl
        have cconfidence_0 : w22.cell? ⟨w.heap.size + 1 + 1, 0, none⟩ = some (.int .i64 n3) := Blconfidence.at 0 rfl
        have cconfidence_1 : w22.cell? ⟨w.heap.size + 1 + 1, 1, none⟩ = some (.int .i64 d3) := Blconfidence.at 1 rfl
        have hH := (show w22.cell? ⟨w.heap.size + 1, 0, none⟩ = some (.int .i64 n2) ∧ w22.cell? ⟨w.heap.size + 1, 1, none⟩ = some (.int .i64 d2) ∧ w22.cell? ⟨w.heap.size + 1 + 1, 0, none⟩ = some (.int .i64 n3) ∧ w22.cell? ⟨w.heap.size + 1 + 1, 1, none⟩ = some (.int .i64 d3) from ⟨cshare_0, cshare_1, cconfidence_0, cconfidence_1⟩)
        refine U_takeN (i := 0) (d := 111) (v := ?_) rfl rfl rfl (by kernel_rfl) (by kernel_rfl) (by kernel_rfl) (fun _ _ _ h => h) (Or.inl ⟨by rfl, ?_⟩) hH ?_
        rotate_left
        · intro w hSw
          try dsimp only at hSw
          go_simp
          try with_reducible rfl
        simp only [LY]
        refine U_takeN (i := 1) (d := 112) (v := ?_) rfl rfl rfl (by kernel_rfl) (by kernel_rfl) (by kernel_rfl) (fun _ _ _ h => h) (Or.inl ⟨by rfl, ?_⟩) hH ?_
        rotate_left
        · intro w hSw
          try dsimp only at hSw
          go_simp
          try with_reducible rfl
        simp only [LY]
        refine U_takeN (i := 3) (d := 114) (v := ?_) rfl rfl rfl (by kernel_rfl) (by kernel_rfl) (by kernel_rfl) (fun _ _ _ h => h) (Or.inl ⟨by rfl, ?_⟩) hH ?_
        rotate_left
        · intro w hSw
          try dsimp only at hSw
          go_simp
          try with_reducible rfl
        simp only [LY]
        clear hH
        refine U_one (i := 2) (by kernel_rfl) rfl (fun K hK => ?_)
        go_simp
        (with_reducible refine (l1_Of_ _ O2.out HU.out).mono ?_)
        rintro e w23 ⟨_, rfl, h19, hb⟩
        obtain ⟨sh19, ah19, nh19, ch19, Ah19, Nh19, Ch19, rfl⟩ := h19.shape
        replace hs := bStep hs hb
        replace Blp := Blp.mono hb
        replace Blshare := Blshare.mono hb
        replace Blconfidence := Blconfidence.mono hb
        replace Blls := Blls.mono hb
        replace Blx := Blx.mono hb
        replace Bly := Bly.mono hb
        replace Blls6 := Blls6.mono hb
        replace h6 := h6.mono hb
        replace h7 := h7.mono hb
        replace h8 := h8.mono hb
        replace h9 := h9.mono hb
        replace h10 := h10.mono hb
        replace h11 := h11.mono hb
        replace h12 := h12.mono hb
        replace h13 := h13.mono hb
        replace cshare_0 := cellK cshare_0 hb
        replace cshare_1 := cellK cshare_1 hb
        replace cconfidence_0 := cellK cconfidence_0 hb
        replace cconfidence_1 := cellK cconfidence_1 hb
        clear hb
        try go_wp2_with fail
        refine hK.out _ _ ⟨cshare_0, cshare_1, cconfidence_0, cconfidence_1⟩ (fun hH => ?_)
        clear hK K
        try simp only [LY]
        clear hH
        refine U_one (i := 4) (by kernel_rfl) rfl (fun K hK => ?_)
        go_simp
        (with_reducible refine (l1_Of_ _ O3.out HC.out).mono ?_)
        rintro e w24 ⟨_, rfl, h20, hb⟩
        obtain ⟨sh20, ah20, nh20, ch20, Ah20, Nh20, Ch20, rfl⟩ := h20.shape
        replace hs := bStep hs hb
        replace Blp := Blp.mono hb
        replace Blshare := Blshare.mono hb
        replace Blconfidence := Blconfidence.mono hb
        replace Blls := Blls.mono hb
        replace Blx := Blx.mono hb
        replace Bly := Bly.mono hb
        replace Blls6 := Blls6.mono hb
        replace h6 := h6.mono hb
        replace h7 := h7.mono hb
        replace h8 := h8.mono hb
        replace h9 := h9.mono hb
        replace h10 := h10.mono hb
        replace h11 := h11.mono hb
        replace h12 := h12.mono hb
        replace h13 := h13.mono hb
        replace h19 := h19.mono hb
        replace cshare_0 := cellK cshare_0 hb
        replace cshare_1 := cellK cshare_1 hb
        replace cconfidence_0 := cellK cconfidence_0 hb
        replace cconfidence_1 := cellK cconfidence_1 hb
        clear hb
        try go_wp2_with fail
        refine hK.out _ _ ⟨cshare_0, cshare_1, cconfidence_0, cconfidence_1⟩ (fun hH => ?_)
        clear hK K
        try simp only [LY]
        clear hH
        refine U_one (i := 5) (by kernel_rfl) rfl (fun K hK => ?_)
        go_simp
        (with_reducible refine (al_Coupons_all _ h19 su h20 sc HD.out HG.out).mono ?_)
        rintro e w25 ⟨rfl, hb⟩
        replace hs := bStep hs hb
        replace Blp := Blp.mono hb
        replace Blshare := Blshare.mono hb
        replace Blconfidence := Blconfidence.mono hb
        replace Blls := Blls.mono hb
        replace Blx := Blx.mono hb
        replace Bly := Bly.mono hb
        replace Blls6 := Blls6.mono hb
        replace h6 := h6.mono hb
        replace h7 := h7.mono hb
        replace h8 := h8.mono hb
        replace h9 := h9.mono hb
        replace h10 := h10.mono hb
        replace h11 := h11.mono hb
        replace h12 := h12.mono hb
        replace h13 := h13.mono hb
        replace h19 := h19.mono hb
        replace h20 := h20.mono hb
        replace cshare_0 := cellK cshare_0 hb
        replace cshare_1 := cellK cshare_1 hb
        replace cconfidence_0 := cellK cconfidence_0 hb
        replace cconfidence_1 := cellK cconfidence_1 hb
        clear hb
        try go_wp2_with fail
        refine hK.out _ _ ⟨cshare_0, cshare_1, cconfidence_0, cconfidence_1⟩ (fun hH => ?_)
        clear hK K
        try simp only [LY]
        refine U_takeN (i := 6) (d := 110) (v := ?_) rfl rfl rfl (by kernel_rfl) (by kernel_rfl) (by kernel_rfl) (fun _ _ _ h => h) (Or.inl ⟨by rfl, ?_⟩) hH ?_
        rotate_left
        · intro w hSw
          try dsimp only at hSw
          go_simp
          try with_reducible rfl
        simp only [LY]
        refine U_takeN (i := 7) (d := 117) (v := ?_) rfl rfl rfl (by kernel_rfl) (by kernel_rfl) (by kernel_rfl) (fun _ _ _ h => h) (Or.inl ⟨by rfl, ?_⟩) hH ?_
        rotate_left
        · intro w hSw
          try dsimp only at hSw
          go_simp
          try with_reducible rfl
        simp only [LY]
        refine U_takeN (i := 8) (d := 118) (v := ?_) rfl rfl rfl (by kernel_rfl) (by kernel_rfl) (by kernel_rfl) (fun _ _ _ h => h) (Or.inl ⟨by rfl, ?_⟩) hH ?_
        rotate_left
        · intro w hSw
          try dsimp only at hSw
          go_simp
          try with_reducible rfl
        simp only [LY]
        refine U_takeN (i := 9) (d := 21) (v := ?_) rfl rfl rfl (by kernel_rfl) (by kernel_rfl) (by kernel_rfl) (fun _ _ _ h => h) (Or.inl ⟨by rfl, ?_⟩) hH ?_
        rotate_left
        · intro w hSw
          try dsimp only at hSw
          go_simp
          try with_reducible rfl
        simp only [LY]
        refine U_takeN (i := 10) (d := 22) (v := ?_) rfl rfl rfl (by kernel_rfl) (by kernel_rfl) (by kernel_rfl) (fun _ _ _ h => h) (Or.inl ⟨by rfl, ?_⟩) hH ?_
        rotate_left
        · intro w hSw
          try dsimp only at hSw
          go_simp
          try with_reducible rfl
        simp only [LY]
        clear hH
        refine U_endN (by kernel_rfl) ?_
        clear cshare_0 cshare_1 cconfidence_0 cconfidence_1
        go_upto_region 12 with fail
        refine U_region (S := fun w' => w'.cell? ⟨w.heap.size + 1, 0, none⟩ = some (.int .i64 n2) ∧ w'.cell? ⟨w.heap.size + 1, 1, none⟩ = some (.int .i64 d2) ∧ w'.cell? ⟨w.heap.size + 1 + 1, 0, none⟩ = some (.int .i64 n3) ∧ w'.cell? ⟨w.heap.size + 1 + 1, 1, none⟩ = some (.int .i64 d3)) (by kernel_rfl) 11 ?_
        refine AnyU.abs ?_
        intro w26 hW
        have hb : Below w25.heap.size w25 w26 := by rw [hW]; exact bDrew _
        replace hs := bStep hs hb
        replace Blp := Blp.mono hb
        replace Blshare := Blshare.mono hb
        replace Blconfidence := Blconfidence.mono hb
        replace Blls := Blls.mono hb
        replace Blx := Blx.mono hb
        replace Bly := Bly.mono hb
        replace Blls6 := Blls6.mono hb
        replace h6 := h6.mono hb
        replace h7 := h7.mono hb
        replace h8 := h8.mono hb
        replace h9 := h9.mono hb
        replace h10 := h10.mono hb
        replace h11 := h11.mono hb
        replace h12 := h12.mono hb
        replace h13 := h13.mono hb
        replace h19 := h19.mono hb
        replace h20 := h20.mono hb
        clear hb hW
        have cshare_0 : w26.cell? ⟨w.heap.size + 1, 0, none⟩ = some (.int .i64 n2) := Blshare.at 0 rfl
        have cshare_1 : w26.cell? ⟨w.heap.size + 1, 1, none⟩ = some (.int .i64 d2) := Blshare.at 1 rfl
        have cconfidence_0 : w26.cell? ⟨w.heap.size + 1 + 1, 0, none⟩ = some (.int .i64 n3) := Blconfidence.at 0 rfl
        have cconfidence_1 : w26.cell? ⟨w.heap.size + 1 + 1, 1, none⟩ = some (.int .i64 d3) := Blconfidence.at 1 rfl
        have hH := (show w26.cell? ⟨w.heap.size + 1, 0, none⟩ = some (.int .i64 n2) ∧ w26.cell? ⟨w.heap.size + 1, 1, none⟩ = some (.int .i64 d2) ∧ w26.cell? ⟨w.heap.size + 1 + 1, 0, none⟩ = some (.int .i64 n3) ∧ w26.cell? ⟨w.heap.size + 1 + 1, 1, none⟩ = some (.int .i64 d3) from ⟨cshare_0, cshare_1, cconfidence_0, cconfidence_1⟩)
        refine U_takeN (i := 0) (d := 120) (v := ?_) rfl rfl rfl (by kernel_rfl) (by kernel_rfl) (by kernel_rfl) (fun _ _ _ h => h) (Or.inl ⟨by rfl, ?_⟩) hH ?_
        rotate_left
        · intro w hSw
          try dsimp only at hSw
          go_simp
          try with_reducible rfl
        simp only [LY]
        refine U_takeN (i := 1) (d := 121) (v := ?_) rfl rfl rfl (by kernel_rfl) (by kernel_rfl) (by kernel_rfl) (fun _ _ _ h => h) (Or.inl ⟨by rfl, ?_⟩) hH ?_
        rotate_left
        · intro w hSw
          try dsimp only at hSw
          go_simp
          try with_reducible rfl
        simp only [LY]
        refine U_takeN (i := 3) (d := 123) (v := ?_) rfl rfl rfl (by kernel_rfl) (by kernel_rfl) (by kernel_rfl) (fun _ _ _ h => h) (Or.inl ⟨by rfl, ?_⟩) hH ?_
        rotate_left
        · intro w hSw
          try dsimp only at hSw
          go_simp
          try with_reducible rfl
        simp only [LY]
        clear hH
        refine U_one (i := 2) (by kernel_rfl) rfl (fun K hK => ?_)
        go_simp
        (with_reducible refine (r1_Of_ _ O2.out HU.out).mono ?_)
        rintro e w27 ⟨_, rfl, h21, hb⟩
        obtain ⟨sh21, ah21, nh21, ch21, Ah21, Nh21, Ch21, rfl⟩ := h21.shape
        replace hs := bStep hs hb
        replace Blp := Blp.mono hb
        replace Blshare := Blshare.mono hb
        replace Blconfidence := Blconfidence.mono hb
        replace Blls := Blls.mono hb
        replace Blx := Blx.mono hb
        replace Bly := Bly.mono hb
        replace Blls6 := Blls6.mono hb
        replace h6 := h6.mono hb
        replace h7 := h7.mono hb
        replace h8 := h8.mono hb
        replace h9 := h9.mono hb
        replace h10 := h10.mono hb
        replace h11 := h11.mono hb
        replace h12 := h12.mono hb
        replace h13 := h13.mono hb
        replace h19 := h19.mono hb
        replace h20 := h20.mono hb
        replace cshare_0 := cellK cshare_0 hb
        replace cshare_1 := cellK cshare_1 hb
        replace cconfidence_0 := cellK cconfidence_0 hb
        replace cconfidence_1 := cellK cconfidence_1 hb
        clear hb
        try go_wp2_with fail
        refine hK.out _ _ ⟨cshare_0, cshare_1, cconfidence_0, cconfidence_1⟩ (fun hH => ?_)
        clear hK K
        try simp only [LY]
        clear hH
        refine U_one (i := 4) (by kernel_rfl) rfl (fun K hK => ?_)
        go_simp
        (with_reducible refine (r1_Of_ _ O3.out HC.out).mono ?_)
        rintro e w28 ⟨_, rfl, h22, hb⟩
        obtain ⟨sh22, ah22, nh22, ch22, Ah22, Nh22, Ch22, rfl⟩ := h22.shape
        replace hs := bStep hs hb
        replace Blp := Blp.mono hb
        replace Blshare := Blshare.mono hb
        replace Blconfidence := Blconfidence.mono hb
        replace Blls := Blls.mono hb
        replace Blx := Blx.mono hb
        replace Bly := Bly.mono hb
        replace Blls6 := Blls6.mono hb
        replace h6 := h6.mono hb
        replace h7 := h7.mono hb
        replace h8 := h8.mono hb
        replace h9 := h9.mono hb
        replace h10 := h10.mono hb
        replace h11 := h11.mono hb
        replace h12 := h12.mono hb
        replace h13 := h13.mono hb
        replace h19 := h19.mono hb
        replace h20 := h20.mono hb
        replace h21 := h21.mono hb
        replace cshare_0 := cellK cshare_0 hb
        replace cshare_1 := cellK cshare_1 hb
        replace cconfidence_0 := cellK cconfidence_0 hb
        replace cconfidence_1 := cellK cconfidence_1 hb
        clear hb
        try go_wp2_with fail
        refine hK.out _ _ ⟨cshare_0, cshare_1, cconfidence_0, cconfidence_1⟩ (fun hH => ?_)
        clear hK K
        try simp only [LY]
        clear hH
        refine U_one (i := 5) (by kernel_rfl) rfl (fun K hK => ?_)
        go_simp
        (with_reducible refine (r8_Coupons_all _ h21 su h22 sc HD.out HG.out).mono ?_)
        rintro e w29 ⟨rfl, hb⟩
        replace hs := bStep hs hb
        replace Blp := Blp.mono hb
        replace Blshare := Blshare.mono hb
        replace Blconfidence := Blconfidence.mono hb
        replace Blls := Blls.mono hb
        replace Blx := Blx.mono hb
        replace Bly := Bly.mono hb
        replace Blls6 := Blls6.mono hb
        replace h6 := h6.mono hb
        replace h7 := h7.mono hb
        replace h8 := h8.mono hb
        replace h9 := h9.mono hb
        replace h10 := h10.mono hb
        replace h11 := h11.mono hb
        replace h12 := h12.mono hb
        replace h13 := h13.mono hb
        replace h19 := h19.mono hb
        replace h20 := h20.mono hb
        replace h21 := h21.mono hb
        replace h22 := h22.mono hb
        replace cshare_0 := cellK cshare_0 hb
        replace cshare_1 := cellK cshare_1 hb
        replace cconfidence_0 := cellK cconfidence_0 hb
        replace cconfidence_1 := cellK cconfidence_1 hb
        clear hb
        try go_wp2_with fail
        refine hK.out _ _ ⟨cshare_0, cshare_1, cconfidence_0, cconfidence_1⟩ (fun hH => ?_)
        clear hK K
        try simp only [LY]
        refine U_takeN (i := 6) (d := 119) (v := ?_) rfl rfl rfl (by kernel_rfl) (by kernel_rfl) (by kernel_rfl) (fun _ _ _ h => h) (Or.inl ⟨by rfl, ?_⟩) hH ?_
        rotate_left
        · intro w hSw
          try dsimp only at hSw
          go_simp
          try with_reducible rfl
        simp only [LY]
        refine U_takeN (i := 7) (d := 126) (v := ?_) rfl rfl rfl (by kernel_rfl) (by kernel_rfl) (by kernel_rfl) (fun _ _ _ h => h) (Or.inl ⟨by rfl, ?_⟩) hH ?_
        rotate_left
        · intro w hSw
          try dsimp only at hSw
          go_simp
          try with_reducible rfl
        simp only [LY]
        refine U_takeN (i := 8) (d := 127) (v := ?_) rfl rfl rfl (by kernel_rfl) (by kernel_rfl) (by kernel_rfl) (fun _ _ _ h => h) (Or.inl ⟨by rfl, ?_⟩) hH ?_
        rotate_left
        · intro w hSw
          try dsimp only at hSw
          go_simp
          try with_reducible rfl
        simp only [LY]
        refine U_takeN (i := 9) (d := 23) (v := ?_) rfl rfl rfl (by kernel_rfl) (by kernel_rfl) (by kernel_rfl) (fun _ _ _ h => h) (Or.inl ⟨by rfl, ?_⟩) hH ?_
        rotate_left
        · intro w hSw
          try dsimp only at hSw
          go_simp
          try with_reducible rfl
        simp only [LY]
        refine U_takeN (i := 10) (d := 24) (v := ?_) rfl rfl rfl (by kernel_rfl) (by kernel_rfl) (by kernel_rfl) (fun _ _ _ h => h) (Or.inl ⟨by rfl, ?_⟩) hH ?_
        rotate_left
        · intro w hSw
          try dsimp only at hSw
          go_simp
          try with_reducible rfl
        simp only [LY]
        clear hH
        refine U_endN (by kernel_rfl) ?_
        clear cshare_0 cshare_1 cconfidence_0 cconfidence_1
        have q23b : (d == d) = true := beq_self_eq_true _
        have q23n : (d != d) = false := bne_self_eq_false _
        have q24b : (g == g) = true := beq_self_eq_true _
        have q24n : (g != g) = false := bne_self_eq_false _
        go_wp2
        go_ret
        exact ⟨rfl, hs⟩
      · obtain rfl : b17 = false := by rw [Hb17.out]; simpa using q18
        have q18H := Lib.hid q18
        clear q18
        go_wp2
        go_ret
        exact ⟨rfl, hs⟩
  · have q3d : ((20 : Int) < n) = False := eq_false (by omega)
    by_cases q4 : 4 < m
    · have q4d : ((4 : Int) < m) = True := eq_true (by omega)
      have q5 : ¬ (m ≤ 64) := (by omega)
      have q5d : (m ≤ 64) = False := eq_false (by omega)
      have cp_0 : w4.cell? ⟨w.heap.size, 0, none⟩ = some (.int .i64 n1) := Blp.at 0 rfl
      have cp_1 : w4.cell? ⟨w.heap.size, 1, none⟩ = some (.int .i64 d1) := Blp.at 1 rfl
      have Lp : w.heap.size < w4.heap.size := Blp.lt
      go_wp2_with fail
      clear cp_0 cp_1 Lp
      with_reducible refine (l1_Of_ _ O1.out HP.out).mono ?_
      rintro e w5 ⟨_, rfl, h6, hb⟩
      obtain ⟨sh6, ah6, nh6, ch6, Ah6, Nh6, Ch6, rfl⟩ := h6.shape
      replace hs := bStep hs hb
      replace Blp := Blp.mono hb
      replace Blshare := Blshare.mono hb
      replace Blconfidence := Blconfidence.mono hb
      replace Blls := Blls.mono hb
      clear hb
      go_wp2_with fail
      with_reducible refine (al_Tail_all _ h6 sp (by omega) HQ.out HE.out).mono ?_
      rintro e w6 ⟨_, rfl, h7, hb⟩
      obtain ⟨sh7, ah7, nh7, ch7, Ah7, Nh7, Ch7, rfl⟩ := h7.shape
      replace hs := bStep hs hb
      replace Blp := Blp.mono hb
      replace Blshare := Blshare.mono hb
      replace Blconfidence := Blconfidence.mono hb
      replace Blls := Blls.mono hb
      replace h6 := h6.mono hb
      clear hb
      have cp_0 : w6.cell? ⟨w.heap.size, 0, none⟩ = some (.int .i64 n1) := Blp.at 0 rfl
      have cp_1 : w6.cell? ⟨w.heap.size, 1, none⟩ = some (.int .i64 d1) := Blp.at 1 rfl
      have Lp : w.heap.size < w6.heap.size := Blp.lt
      go_wp2_with fail
      clear cp_0 cp_1 Lp
      refine Calls.abs ?_
      intro w7 hW
      have hG : Gr [] w6 w7 := by rw [hW]; exact (Gr.refl _ _).alloc
      have hbw : Below w.heap.size w6 w7 := hG.below0 hs.size
      have hk : KeepD w6 w7 := hG.keep True.intro
      have sz_w7 : w.heap.size ≤ w6.heap.size := hs.size
      have np_w7 : w.heap.size < w6.heap.size := Blp.lt
      have nshare_w7 : w.heap.size + 1 < w6.heap.size := Blshare.lt
      have nconfidence_w7 : w.heap.size + 1 + 1 < w6.heap.size := Blconfidence.lt
      have nls_w7 : w2.heap.size < w6.heap.size := Blls.lt
      have Blx : Bx w7 (w6.heap.size) 29 #[.bool sh7, .slice ah7 nh7 ch7, .slice Ah7 Nh7 Ch7] := by rw [hW]; exact (Bx.new0 _ _ _)
      replace hs := hs.trans hbw
      replace Blp := hG.bx Blp notMem0
      replace Blshare := hG.bx Blshare notMem0
      replace Blconfidence := hG.bx Blconfidence notMem0
      replace Blls := hG.bx Blls notMem0
      replace h6 := h6.keep hk
      replace h7 := h7.keep hk
      clear hW hG hk hbw
      have hz_w7 : w6.heap.size < w7.heap.size := Blx.lt
      with_reducible refine (r1_Of_ _ O1.out HP.out).mono ?_
      rintro e w8 ⟨_, rfl, h8, hb⟩
      obtain ⟨sh8, ah8, nh8, ch8, Ah8, Nh8, Ch8, rfl⟩ := h8.shape
      replace hs := bStep hs hb
      replace Blp := Blp.mono hb
      replace Blshare := Blshare.mono hb
      replace Blconfidence := Blconfidence.mono hb
      replace Blls := Blls.mono hb
      replace Blx := Blx.mono hb
      replace h6 := h6.mono hb
      replace h7 := h7.mono hb
      clear hb
      go_wp2_with fail
      with_reducible refine (r8_Tail_all _ h8 sp (by omega) HQ.out HE.out).mono ?_
      rintro e w9 ⟨_, rfl, h9, hb⟩
      obtain ⟨sh9, ah9, nh9, ch9, Ah9, Nh9, Ch9, rfl⟩ := h9.shape
      replace hs := bStep hs hb
      replace Blp := Blp.mono hb
      replace Blshare := Blshare.mono hb
      replace Blconfidence := Blconfidence.mono hb
      replace Blls := Blls.mono hb
      replace Blx := Blx.mono hb
      replace h6 := h6.mono hb
      replace h7 := h7.mono hb
      replace h8 := h8.mono hb
      clear hb
      go_upto_region 5 with fail
      refine Code.abs ?_
      intro w10 hW
      have hG : Gr [] w9 w10 := by rw [hW]; exact (Gr.refl _ _).alloc
      have hbw : Below w.heap.size w9 w10 := hG.below0 hs.size
      have hk : KeepD w9 w10 := hG.keep True.intro
      have sz_w10 : w.heap.size ≤ w9.heap.size := hs.size
      have np_w10 : w.heap.size < w9.heap.size := Blp.lt
      have nshare_w10 : w.heap.size + 1 < w9.heap.size := Blshare.lt
      have nconfidence_w10 : w.heap.size + 1 + 1 < w9.heap.size := Blconfidence.lt
      have nls_w10 : w2.heap.size < w9.heap.size := Blls.lt
      have nx_w10 : w6.heap.size < w9.heap.size := Blx.lt
      have Bly : Bx w10 (w9.heap.size) 36 #[.bool sh9, .slice ah9 nh9 ch9, .slice Ah9 Nh9 Ch9] := by rw [hW]; exact (Bx.new0 _ _ _)
      replace hs := hs.trans hbw
      replace Blp := hG.bx Blp notMem0
      replace Blshare := hG.bx Blshare notMem0
      replace Blconfidence := hG.bx Blconfidence notMem0
      replace Blls := hG.bx Blls notMem0
      replace Blx := hG.bx Blx notMem0
      replace h6 := h6.keep hk
      replace h7 := h7.keep hk
      replace h8 := h8.keep hk
      replace h9 := h9.keep hk
      clear hW hG hk hbw
      have hz_w10 : w9.heap.size < w10.heap.size := Bly.lt
      refine U_region (S := fun w' => w'.cell? ⟨w.heap.size + 1, 0, none⟩ = some (.int .i64 n2) ∧ w'.cell? ⟨w.heap.size + 1, 1, none⟩ = some (.int .i64 d2) ∧ w'.cell? ⟨w.heap.size + 1 + 1, 0, none⟩ = some (.int .i64 n3) ∧ w'.cell? ⟨w.heap.size + 1 + 1, 1, none⟩ = some (.int .i64 d3)) (by kernel_rfl) 11 ?_
      refine AnyU.abs ?_
      intro w11 hW
      have hb : Below w10.heap.size w10 w11 := by rw [hW]; exact bDrew _
      replace hs := bStep hs hb
      replace Blp := Blp.mono hb
      replace Blshare := Blshare.mono hb
      replace Blconfidence := Blconfidence.mono hb
      replace Blls := Blls.mono hb
      replace Blx := Blx.mono hb
      replace Bly := Bly.mono hb
      replace h6 := h6.mono hb
      replace h7 := h7.mono hb
      replace h8 := h8.mono hb
      replace h9 := h9.mono hb
      clear hb hW
      have cshare_0 : w11.cell? ⟨w.heap.size + 1, 0, none⟩ = some (.int .i64 n2) := Blshare.at 0 rfl
      have cshare_1 : w11.cell? ⟨w.heap.size + 1, 1, none⟩ = some (.int .i64 d2) := Blshare.at 1 rfl
      have cconfidence_0 : w11.cell? ⟨w.heap.size + 1 + 1, 0, none⟩ = some (.int .i64 n3) := Blconfidence.at 0 rfl
      have cconfidence_1 : w11.cell? ⟨w.heap.size + 1 + 1, 1, none⟩ = some (.int .i64 d3) := Blconfidence.at 1 rfl
      have hH := (show w11.cell? ⟨w.heap.size + 1, 0, none⟩ = some (.int .i64 n2) ∧ w11.cell? ⟨w.heap.size + 1, 1, none⟩ = some (.int .i64 d2) ∧ w11.cell? ⟨w.heap.size + 1 + 1, 0, none⟩ = some (.int .i64 n3) ∧ w11.cell? ⟨w.heap.size + 1 + 1, 1, none⟩ = some (.int .i64 d3) from ⟨cshare_0, cshare_1, cconfidence_0, cconfidence_1⟩)
      refine U_takeN (i := 0) (d := 69) (v := ?_) rfl rfl rfl (by kernel_rfl) (by kernel_rfl) (by kernel_rfl) (fun _ _ _ h => h) (Or.inl ⟨by rfl, ?_⟩) hH ?_
      rotate_left
      · intro w hSw
        try dsimp only at hSw
        go_simp
        try with_reducible rfl
      simp only [LY]
      refine U_takeN (i := 1) (d := 70) (v := ?_) rfl rfl rfl (by kernel_rfl) (by kernel_rfl) (by kernel_rfl) (fun _ _ _ h => h) (Or.inl ⟨by rfl, ?_⟩) hH ?_
      rotate_left
      · intro w hSw
        try dsimp only at hSw
        go_simp
        try with_reducible rfl
      simp only [LY]
      refine U_takeN (i := 3) (d := 72) (v := ?_) rfl rfl rfl (by kernel_rfl) (by kernel_rfl) (by kernel_rfl) (fun _ _ _ h => h) (Or.inl ⟨by rfl, ?_⟩) hH ?_
      rotate_left
      · intro w hSw
        try dsimp only at hSw
        go_simp
        try with_reducible rfl
      simp only [LY]
      clear hH
      refine U_one (i := 2) (by kernel_rfl) rfl (fun K hK => ?_)
      go_simp
      (with_reducible refine (l1_Of_ _ O2.out HU.out).mono ?_)
      rintro e w12 ⟨_, rfl, h10, hb⟩
      obtain ⟨sh10, ah10, nh10, ch10, Ah10, Nh10, Ch10, rfl⟩ := h10.shape
      replace hs := bStep hs hb
      replace Blp := Blp.mono hb
      replace Blshare := Blshare.mono hb
      replace Blconfidence := Blconfidence.mono hb
      replace Blls := Blls.mono hb
      replace Blx := Blx.mono hb
      replace Bly := Bly.mono hb
      replace h6 := h6.mono hb
      replace h7 := h7.mono hb
      replace h8 := h8.mono hb
      replace h9 := h9.mono hb
      replace cshare_0 := cellK cshare_0 hb
      replace cshare_1 := cellK cshare_1 hb
      replace cconfidence_0 := cellK cconfidence_0 hb
      replace cconfidence_1 := cellK cconfidence_1 hb
      clear hb
      try go_wp2_with fail
      refine hK.out _ _ ⟨cshare_0, cshare_1, cconfidence_0, cconfidence_1⟩ (fun hH => ?_)
      clear hK K
      try simp only [LY]
      clear hH
      refine U_one (i := 4) (by kernel_rfl) rfl (fun K hK => ?_)
      go_simp
      (with_reducible refine (l1_Of_ _ O3.out HC.out).mono ?_)
      rintro e w13 ⟨_, rfl, h11, hb⟩
      obtain ⟨sh11, ah11, nh11, ch11, Ah11, Nh11, Ch11, rfl⟩ := h11.shape
      replace hs := bStep hs hb
      replace Blp := Blp.mono hb
      replace Blshare := Blshare.mono hb
      replace Blconfidence := Blconfidence.mono hb
      replace Blls := Blls.mono hb
      replace Blx := Blx.mono hb
      replace Bly := Bly.mono hb
      replace h6 := h6.mono hb
      replace h7 := h7.mono hb
      replace h8 := h8.mono hb
      replace h9 := h9.mono hb
      replace h10 := h10.mono hb
      replace cshare_0 := cellK cshare_0 hb
      replace cshare_1 := cellK cshare_1 hb
      replace cconfidence_0 := cellK cconfidence_0 hb
      replace cconfidence_1 := cellK cconfidence_1 hb
      clear hb
      try go_wp2_with fail
      refine hK.out _ _ ⟨cshare_0, cshare_1, cconfidence_0, cconfidence_1⟩ (fun hH => ?_)
      clear hK K
      try simp only [LY]
      clear hH
      refine U_one (i := 5) (by kernel_rfl) rfl (fun K hK => ?_)
      go_simp
      (with_reducible refine (al_Rank_all _ h10 su h11 sc HR.out HF.out).mono ?_)
      rintro e w14 ⟨rfl, hb⟩
      replace hs := bStep hs hb
      replace Blp := Blp.mono hb
      replace Blshare := Blshare.mono hb
      replace Blconfidence := Blconfidence.mono hb
      replace Blls := Blls.mono hb
      replace Blx := Blx.mono hb
      replace Bly := Bly.mono hb
      replace h6 := h6.mono hb
      replace h7 := h7.mono hb
      replace h8 := h8.mono hb
      replace h9 := h9.mono hb
      replace h10 := h10.mono hb
      replace h11 := h11.mono hb
      replace cshare_0 := cellK cshare_0 hb
      replace cshare_1 := cellK cshare_1 hb
      replace cconfidence_0 := cellK cconfidence_0 hb
      replace cconfidence_1 := cellK cconfidence_1 hb
      clear hb
      try go_wp2_with fail
      refine hK.out _ _ ⟨cshare_0, cshare_1, cconfidence_0, cconfidence_1⟩ (fun hH => ?_)
      clear hK K
      try simp only [LY]
      refine U_takeN (i := 6) (d := 68) (v := ?_) rfl rfl rfl (by kernel_rfl) (by kernel_rfl) (by kernel_rfl) (fun _ _ _ h => h) (Or.inl ⟨by rfl, ?_⟩) hH ?_
      rotate_left
      · intro w hSw
        try dsimp only at hSw
        go_simp
        try with_reducible rfl
      simp only [LY]
      refine U_takeN (i := 7) (d := 75) (v := ?_) rfl rfl rfl (by kernel_rfl) (by kernel_rfl) (by kernel_rfl) (fun _ _ _ h => h) (Or.inl ⟨by rfl, ?_⟩) hH ?_
      rotate_left
      · intro w hSw
        try dsimp only at hSw
        go_simp
        try with_reducible rfl
      simp only [LY]
      refine U_takeN (i := 8) (d := 76) (v := ?_) rfl rfl rfl (by kernel_rfl) (by kernel_rfl) (by kernel_rfl) (fun _ _ _ h => h) (Or.inl ⟨by rfl, ?_⟩) hH ?_
      rotate_left
      · intro w hSw
        try dsimp only at hSw
        go_simp
        try with_reducible rfl
      simp only [LY]
      refine U_takeN (i := 9) (d := 17) (v := ?_) rfl rfl rfl (by kernel_rfl) (by kernel_rfl) (by kernel_rfl) (fun _ _ _ h => h) (Or.inl ⟨by rfl, ?_⟩) hH ?_
      rotate_left
      · intro w hSw
        try dsimp only at hSw
        go_simp
        try with_reducible rfl
      simp only [LY]
      refine U_takeN (i := 10) (d := 18) (v := ?_) rfl rfl rfl (by kernel_rfl) (by kernel_rfl) (by kernel_rfl) (fun _ _ _ h => h) (Or.inl ⟨by rfl, ?_⟩) hH ?_
      rotate_left
      · intro w hSw
        try dsimp only at hSw
        go_simp
        try with_reducible rfl
      simp only [LY]
      clear hH
      refine U_endN (by kernel_rfl) ?_
      clear cshare_0 cshare_1 cconfidence_0 cconfidence_1
      go_upto_region 6 with fail
      refine U_region (S := fun w' => w'.cell? ⟨w.heap.size + 1, 0, none⟩ = some (.int .i64 n2) ∧ w'.cell? ⟨w.heap.size + 1, 1, none⟩ = some (.int .i64 d2) ∧ w'.cell? ⟨w.heap.size + 1 + 1, 0, none⟩ = some (.int .i64 n3) ∧ w'.cell? ⟨w.heap.size + 1 + 1, 1, none⟩ = some (.int .i64 d3)) (by kernel_rfl) 11 ?_
      refine AnyU.abs ?_
      intro w15 hW
      have hb : Below w14.heap.size w14 w15 := by rw [hW]; exact bDrew _
      replace hs := bStep hs hb
      replace Blp := Blp.mono hb
      replace Blshare := Blshare.mono hb
      replace Blconfidence := Blconfidence.mono hb
      replace Blls := Blls.mono hb
      replace Blx := Blx.mono hb
      replace Bly := Bly.mono hb
      replace h6 := h6.mono hb
      replace h7 := h7.mono hb
      replace h8 := h8.mono hb
      replace h9 := h9.mono hb
      replace h10 := h10.mono hb
      replace h11 := h11.mono hb
      clear hb hW
      have cshare_0 : w15.cell? ⟨w.heap.size + 1, 0, none⟩ = some (.int .i64 n2) := Blshare.at 0 rfl
      have cshare_1 : w15.cell? ⟨w.heap.size + 1, 1, none⟩ = some (.int .i64 d2) := Blshare.at 1 rfl
      have cconfidence_0 : w15.cell? ⟨w.heap.size + 1 + 1, 0, none⟩ = some (.int .i64 n3) := Blconfidence.at 0 rfl
      have cconfidence_1 : w15.cell? ⟨w.heap.size + 1 + 1, 1, none⟩ = some (.int .i64 d3) := Blconfidence.at 1 rfl
      have hH := (show w15.cell? ⟨w.heap.size + 1, 0, none⟩ = some (.int .i64 n2) ∧ w15.cell? ⟨w.heap.size + 1, 1, none⟩ = some (.int .i64 d2) ∧ w15.cell? ⟨w.heap.size + 1 + 1, 0, none⟩ = some (.int .i64 n3) ∧ w15.cell? ⟨w.heap.size + 1 + 1, 1, none⟩ = some (.int .i64 d3) from ⟨cshare_0, cshare_1, cconfidence_0, cconfidence_1⟩)
      refine U_takeN (i := 0) (d := 78) (v := ?_) rfl rfl rfl (by kernel_rfl) (by kernel_rfl) (by kernel_rfl) (fun _ _ _ h => h) (Or.inl ⟨by rfl, ?_⟩) hH ?_
      rotate_left
      · intro w hSw
        try dsimp only at hSw
        go_simp
        try with_reducible rfl
      simp only [LY]
      refine U_takeN (i := 1) (d := 79) (v := ?_) rfl rfl rfl (by kernel_rfl) (by kernel_rfl) (by kernel_rfl) (fun _ _ _ h => h) (Or.inl ⟨by rfl, ?_⟩) hH ?_
      rotate_left
      · intro w hSw
        try dsimp only at hSw
        go_simp
        try with_reducible rfl
      simp only [LY]
      refine U_takeN (i := 3) (d := 81) (v := ?_) rfl rfl rfl (by kernel_rfl) (by kernel_rfl) (by kernel_rfl) (fun _ _ _ h => h) (Or.inl ⟨by rfl, ?_⟩) hH ?_
      rotate_left
      · intro w hSw
        try dsimp only at hSw
        go_simp
        try with_reducible rfl
      simp only [LY]
      clear hH
      refine U_one (i := 2) (by kernel_rfl) rfl (fun K hK => ?_)
      go_simp
      (with_reducible refine (r1_Of_ _ O2.out HU.out).mono ?_)
      rintro e w16 ⟨_, rfl, h12, hb⟩
      obtain ⟨sh12, ah12, nh12, ch12, Ah12, Nh12, Ch12, rfl⟩ := h12.shape
      replace hs := bStep hs hb
      replace Blp := Blp.mono hb
      replace Blshare := Blshare.mono hb
      replace Blconfidence := Blconfidence.mono hb
      replace Blls := Blls.mono hb
      replace Blx := Blx.mono hb
      replace Bly := Bly.mono hb
      replace h6 := h6.mono hb
      replace h7 := h7.mono hb
      replace h8 := h8.mono hb
      replace h9 := h9.mono hb
      replace h10 := h10.mono hb
      replace h11 := h11.mono hb
      replace cshare_0 := cellK cshare_0 hb
      replace cshare_1 := cellK cshare_1 hb
      replace cconfidence_0 := cellK cconfidence_0 hb
      replace cconfidence_1 := cellK cconfidence_1 hb
      clear hb
      try go_wp2_with fail
      refine hK.out _ _ ⟨cshare_0, cshare_1, cconfidence_0, cconfidence_1⟩ (fun hH => ?_)
      clear hK K
      try simp only [LY]
      clear hH
      refine U_one (i := 4) (by kernel_rfl) rfl (fun K hK => ?_)
      go_simp
      (with_reducible refine (r1_Of_ _ O3.out HC.out).mono ?_)
      rintro e w17 ⟨_, rfl, h13, hb⟩
      obtain ⟨sh13, ah13, nh13, ch13, Ah13, Nh13, Ch13, rfl⟩ := h13.shape
      replace hs := bStep hs hb
      replace Blp := Blp.mono hb
      replace Blshare := Blshare.mono hb
      replace Blconfidence := Blconfidence.mono hb
      replace Blls := Blls.mono hb
      replace Blx := Blx.mono hb
      replace Bly := Bly.mono hb
      replace h6 := h6.mono hb
      replace h7 := h7.mono hb
      replace h8 := h8.mono hb
      replace h9 := h9.mono hb
      replace h10 := h10.mono hb
      replace h11 := h11.mono hb
      replace h12 := h12.mono hb
      replace cshare_0 := cellK cshare_0 hb
      replace cshare_1 := cellK cshare_1 hb
      replace cconfidence_0 := cellK cconfidence_0 hb
      replace cconfidence_1 := cellK cconfidence_1 hb
      clear hb
      try go_wp2_with fail
      refine hK.out _ _ ⟨cshare_0, cshare_1, cconfidence_0, cconfidence_1⟩ (fun hH => ?_)
      clear hK K
      try simp only [LY]
      clear hH
      refine U_one (i := 5) (by kernel_rfl) rfl (fun K hK => ?_)
      go_simp
      (with_reducible refine (r8_Rank_all _ h12 su h13 sc HR.out HF.out).mono ?_)
      rintro e w18 ⟨rfl, hb⟩
      replace hs := bStep hs hb
      replace Blp := Blp.mono hb
      replace Blshare := Blshare.mono hb
      replace Blconfidence := Blconfidence.mono hb
      replace Blls := Blls.mono hb
      replace Blx := Blx.mono hb
      replace Bly := Bly.mono hb
      replace h6 := h6.mono hb
      replace h7 := h7.mono hb
      replace h8 := h8.mono hb
      replace h9 := h9.mono hb
      replace h10 := h10.mono hb
      replace h11 := h11.mono hb
      replace h12 := h12.mono hb
      replace h13 := h13.mono hb
      replace cshare_0 := cellK cshare_0 hb
      replace cshare_1 := cellK cshare_1 hb
      replace cconfidence_0 := cellK cconfidence_0 hb
      replace cconfidence_1 := cellK cconfidence_1 hb
      clear hb
      try go_wp2_with fail
      refine hK.out _ _ ⟨cshare_0, cshare_1, cconfidence_0, cconfidence_1⟩ (fun hH => ?_)
      clear hK K
      try simp only [LY]
      refine U_takeN (i := 6) (d := 77) (v := ?_) rfl rfl rfl (by kernel_rfl) (by kernel_rfl) (by kernel_rfl) (fun _ _ _ h => h) (Or.inl ⟨by rfl, ?_⟩) hH ?_
      rotate_left
      · intro w hSw
        try dsimp only at hSw
        go_simp
        try with_reducible rfl
      simp only [LY]
      refine U_takeN (i := 7) (d := 84) (v := ?_) rfl rfl rfl (by kernel_rfl) (by kernel_rfl) (by kernel_rfl) (fun _ _ _ h => h) (Or.inl ⟨by rfl, ?_⟩) hH ?_
      rotate_left
      · intro w hSw
        try dsimp only at hSw
        go_simp
        try with_reducible rfl
      simp only [LY]
      refine U_takeN (i := 8) (d := 85) (v := ?_) rfl rfl rfl (by kernel_rfl) (by kernel_rfl) (by kernel_rfl) (fun _ _ _ h => h) (Or.inl ⟨by rfl, ?_⟩) hH ?_
      rotate_left
      · intro w hSw
        try dsimp only at hSw
        go_simp
        try with_reducible rfl
      simp only [LY]
      refine U_takeN (i := 9) (d := 19) (v := ?_) rfl rfl rfl (by kernel_rfl) (by kernel_rfl) (by kernel_rfl) (fun _ _ _ h => h) (Or.inl ⟨by rfl, ?_⟩) hH ?_
      rotate_left
      · intro w hSw
        try dsimp only at hSw
        go_simp
        try with_reducible rfl
      simp only [LY]
      refine U_takeN (i := 10) (d := 20) (v := ?_) rfl rfl rfl (by kernel_rfl) (by kernel_rfl) (by kernel_rfl) (fun _ _ _ h => h) (Or.inl ⟨by rfl, ?_⟩) hH ?_
      rotate_left
      · intro w hSw
        try dsimp only at hSw
        go_simp
        try with_reducible rfl
      simp only [LY]
      clear hH
      refine U_endN (by kernel_rfl) ?_
      clear cshare_0 cshare_1 cconfidence_0 cconfidence_1
      have q14b : (e == e) = true := beq_self_eq_true _
      have q14n : (e != e) = false := bne_self_eq_false _
      have q15b : (f == f) = true := beq_self_eq_true _
      have q15n : (f != f) = false := bne_self_eq_false _
      have cx_0 : w18.cell? ⟨w6.heap.size, 0, none⟩ = some (.bool sh7) := Blx.at 0 rfl
      have cx_1 : w18.cell? ⟨w6.heap.size, 1, none⟩ = some (.slice ah7 nh7 ch7) := Blx.at 1 rfl
      have cx_2 : w18.cell? ⟨w6.heap.size, 2, none⟩ = some (.slice Ah7 Nh7 Ch7) := Blx.at 2 rfl
      have Lx : w6.heap.size < w18.heap.size := Blx.lt
      have cy_0 : w18.cell? ⟨w9.heap.size, 0, none⟩ = some (.bool sh9) := Bly.at 0 rfl
      have cy_1 : w18.cell? ⟨w9.heap.size, 1, none⟩ = some (.slice ah9 nh9 ch9) := Bly.at 1 rfl
      have cy_2 : w18.cell? ⟨w9.heap.size, 2, none⟩ = some (.slice Ah9 Nh9 Ch9) := Bly.at 2 rfl
      have Ly : w9.heap.size < w18.heap.size := Bly.lt
      go_wp2_with fail
      clear cx_0 cx_1 cx_2 cy_0 cy_1 cy_2 Lx Ly
      with_reducible refine (l1_Is _ _ _ _ h7 h9 (SzQ.fit sq)).mono ?_
      rintro e w19 ⟨rfl, hb⟩
      replace hs := bStep hs hb
      replace Blp := Blp.mono hb
      replace Blshare := Blshare.mono hb
      replace Blconfidence := Blconfidence.mono hb
      replace Blls := Blls.mono hb
      replace Blx := Blx.mono hb
      replace Bly := Bly.mono hb
      replace h6 := h6.mono hb
      replace h7 := h7.mono hb
      replace h8 := h8.mono hb
      replace h9 := h9.mono hb
      replace h10 := h10.mono hb
      replace h11 := h11.mono hb
      replace h12 := h12.mono hb
      replace h13 := h13.mono hb
      clear hb
      have q16b : (r == r) = true := beq_self_eq_true _
      have q16n : (r != r) = false := bne_self_eq_false _
      have cshare_0 : w19.cell? ⟨w.heap.size + 1, 0, none⟩ = some (.int .i64 n2) := Blshare.at 0 rfl
      have cshare_1 : w19.cell? ⟨w.heap.size + 1, 1, none⟩ = some (.int .i64 d2) := Blshare.at 1 rfl
      have Lshare : w.heap.size + 1 < w19.heap.size := Blshare.lt
      have cconfidence_0 : w19.cell? ⟨w.heap.size + 1 + 1, 0, none⟩ = some (.int .i64 n3) := Blconfidence.at 0 rfl
      have cconfidence_1 : w19.cell? ⟨w.heap.size + 1 + 1, 1, none⟩ = some (.int .i64 d3) := Blconfidence.at 1 rfl
      have Lconfidence : w.heap.size + 1 + 1 < w19.heap.size := Blconfidence.lt
      have Lshare_0 : w.heap.size < w19.heap.size := by omega
      have Lconfidence_0 : w.heap.size + 1 < w19.heap.size := by omega
      go_wp2_with fail
      clear cshare_0 cshare_1 cconfidence_0 cconfidence_1 Lshare Lconfidence Lshare_0 Lconfidence_0
      refine Calls.abs ?_
      intro w20 hW
      have hG : Gr [] w19 w20 := by rw [hW]; exact (Gr.refl _ _).alloc
      have hbw : Below w.heap.size w19 w20 := hG.below0 hs.size
      have hk : KeepD w19 w20 := hG.keep True.intro
      have sz_w20 : w.heap.size ≤ w19.heap.size := hs.size
      have np_w20 : w.heap.size < w19.heap.size := Blp.lt
      have nshare_w20 : w.heap.size + 1 < w19.heap.size := Blshare.lt
      have nconfidence_w20 : w.heap.size + 1 + 1 < w19.heap.size := Blconfidence.lt
      have nls_w20 : w2.heap.size < w19.heap.size := Blls.lt
      have nx_w20 : w6.heap.size < w19.heap.size := Blx.lt
      have ny_w20 : w9.heap.size < w19.heap.size := Bly.lt
      have Blls6 : Bx w20 (w19.heap.size) 23 #[.int .i64 n2, .int .i64 d2, .int .i64 n3, .int .i64 d3] := by rw [hW]; exact (Bx.new0 _ _ _)
      replace hs := hs.trans hbw
      replace Blp := hG.bx Blp notMem0
      replace Blshare := hG.bx Blshare notMem0
      replace Blconfidence := hG.bx Blconfidence notMem0
      replace Blls := hG.bx Blls notMem0
      replace Blx := hG.bx Blx notMem0
      replace Bly := hG.bx Bly notMem0
      replace h6 := h6.keep hk
      replace h7 := h7.keep hk
      replace h8 := h8.keep hk
      replace h9 := h9.keep hk
      replace h10 := h10.keep hk
      replace h11 := h11.keep hk
      replace h12 := h12.keep hk
      replace h13 := h13.keep hk
      clear hW hG hk hbw
      have hz_w20 : w19.heap.size < w20.heap.size := Blls6.lt
      with_reducible refine (l8_small4 _ [(n2, d2), (n3, d3)] _ (rowsFt2 Blls6)).mono ?_
      rintro e w21 ⟨rfl, hb⟩
      replace hs := bStep hs hb
      replace Blp := Blp.mono hb
      replace Blshare := Blshare.mono hb
      replace Blconfidence := Blconfidence.mono hb
      replace Blls := Blls.mono hb
      replace Blx := Blx.mono hb
      replace Bly := Bly.mono hb
      replace Blls6 := Blls6.mono hb
      replace h6 := h6.mono hb
      replace h7 := h7.mono hb
      replace h8 := h8.mono hb
      replace h9 := h9.mono hb
      replace h10 := h10.mono hb
      replace h11 := h11.mono hb
      replace h12 := h12.mono hb
      replace h13 := h13.mono hb
      clear hb
      obtain ⟨b17, Hb17⟩ : ∃ b : Bool, b = [(n2, d2), (n3, d3)].all smF4 := ⟨_, rfl⟩
      rw [← Hb17]
      replace Hb17 := Lib.hid Hb17
      by_cases q18 : [(n2, d2), (n3, d3)].all smF4 = true
      · obtain rfl : b17 = true := by rw [Hb17.out]; exact q18
        have q18H := Lib.hid q18
        clear q18
        go_upto_region 11 with fail
        refine U_region (S := fun w' => w'.cell? ⟨w.heap.size + 1, 0, none⟩ = some (.int .i64 n2) ∧ w'.cell? ⟨w.heap.size + 1, 1, none⟩ = some (.int .i64 d2) ∧ w'.cell? ⟨w.heap.size + 1 + 1, 0, none⟩ = some (.int .i64 n3) ∧ w'.cell? ⟨w.heap.size + 1 + 1, 1, none⟩ = some (.int .i64 d3)) (by kernel_rfl) 11 ?_
        refine AnyU.abs ?_
        intro w22 hW
        have hb : Below w21.heap.size w21 w22 := by rw [hW]; exact bDrew _
        replace hs := bStep hs hb
        replace Blp := Blp.mono hb
        replace Blshare := Blshare.mono hb
        replace Blconfidence := Blconfidence.mono hb
        replace Blls := Blls.mono hb
        replace Blx := Blx.mono hb
        replace Bly := Bly.mono hb
        replace Blls6 := Blls6.mono hb
        replace h6 := h6.mono hb
        replace h7 := h7.mono hb
        replace h8 := h8.mono hb
        replace h9 := h9.mono hb
        replace h10 := h10.mono hb
        replace h11 := h11.mono hb
        replace h12 := h12.mono hb
        replace h13 := h13.mono hb
        clear hb hW
        have cshare_0 : w22.cell? ⟨w.heap.size + 1, 0, none⟩ = some (.int .i64 n2) := Blshare.at 0 rfl
        have cshare_1 : w22.cell? ⟨w.heap.size + 1, 1, none⟩ = some (.int .i64 d2) := Blshare.at 1 rfl
        have cconfidence_0 : w22.cell? ⟨w.heap.size + 1 + 1, 0, none⟩ = some (.int .i64 n3) := Blconfidence.at 0 rfl
        have cconfidence_1 : w22.cell? ⟨w.heap.size + 1 + 1, 1, none⟩ = some (.int .i64 d3) := Blconfidence.at 1 rfl
        have hH := (show w22.cell? ⟨w.heap.size + 1, 0, none⟩ = some (.int .i64 n2) ∧ w22.cell? ⟨w.heap.size + 1, 1, none⟩ = some (.int .i64 d2) ∧ w22.cell? ⟨w.heap.size + 1 + 1, 0, none⟩ = some (.int .i64 n3) ∧ w22.cell? ⟨w.heap.size + 1 + 1, 1, none⟩ = some (.int .i64 d3) from ⟨cshare_0, cshare_1, cconfidence_0, cconfidence_1⟩)
        refine U_takeN (i := 0) (d := 111) (v := ?_) rfl rfl rfl (by kernel_rfl) (by kernel_rfl) (by kernel_rfl) (fun _ _ _ h => h) (Or.inl ⟨by rfl, ?_⟩) hH ?_
        rotate_left
        · intro w hSw
          try dsimp only at hSw
          go_simp
          try with_reducible rfl
        simp only [LY]
        refine U_takeN (i := 1) (d := 112) (v := ?_) rfl rfl rfl (by kernel_rfl) (by kernel_rfl) (by kernel_rfl) (fun _ _ _ h => h) (Or.inl ⟨by rfl, ?_⟩) hH ?_
        rotate_left
        · intro w hSw
          try dsimp only at hSw
          go_simp
          try with_reducible rfl
        simp only [LY]
        refine U_takeN (i := 3) (d := 114) (v := ?_) rfl rfl rfl (by kernel_rfl) (by kernel_rfl) (by kernel_rfl) (fun _ _ _ h => h) (Or.inl ⟨by rfl, ?_⟩) hH ?_
        rotate_left
        · intro w hSw
          try dsimp only at hSw
          go_simp
          try with_reducible rfl
        simp only [LY]
        clear hH
        refine U_one (i := 2) (by kernel_rfl) rfl (fun K hK => ?_)
        go_simp
        (with_reducible refine (l1_Of_ _ O2.out HU.out).mono ?_)
        rintro e w23 ⟨_, rfl, h19, hb⟩
        obtain ⟨sh19, ah19, nh19, ch19, Ah19, Nh19, Ch19, rfl⟩ := h19.shape
        replace hs := bStep hs hb
        replace Blp := Blp.mono hb
        replace Blshare := Blshare.mono hb
        replace Blconfidence := Blconfidence.mono hb
        replace Blls := Blls.mono hb
        replace Blx := Blx.mono hb
        replace Bly := Bly.mono hb
        replace Blls6 := Blls6.mono hb
        replace h6 := h6.mono hb
        replace h7 := h7.mono hb
        replace h8 := h8.mono hb
        replace h9 := h9.mono hb
        replace h10 := h10.mono hb
        replace h11 := h11.mono hb
        replace h12 := h12.mono hb
        replace h13 := h13.mono hb
        replace cshare_0 := cellK cshare_0 hb
        replace cshare_1 := cellK cshare_1 hb
        replace cconfidence_0 := cellK cconfidence_0 hb
        replace cconfidence_1 := cellK cconfidence_1 hb
        clear hb
        try go_wp2_with fail
        refine hK.out _ _ ⟨cshare_0, cshare_1, cconfidence_0, cconfidence_1⟩ (fun hH => ?_)
        clear hK K
        try simp only [LY]
        clear hH
        refine U_one (i := 4) (by kernel_rfl) rfl (fun K hK => ?_)
        go_simp
        (with_reducible refine (l1_Of_ _ O3.out HC.out).mono ?_)
        rintro e w24 ⟨_, rfl, h20, hb⟩
        obtain ⟨sh20, ah20, nh20, ch20, Ah20, Nh20, Ch20, rfl⟩ := h20.shape
        replace hs := bStep hs hb
        replace Blp := Blp.mono hb
        replace Blshare := Blshare.mono hb
        replace Blconfidence := Blconfidence.mono hb
        replace Blls := Blls.mono hb
        replace Blx := Blx.mono hb
        replace Bly := Bly.mono hb
        replace Blls6 := Blls6.mono hb
        replace h6 := h6.mono hb
        replace h7 := h7.mono hb
        replace h8 := h8.mono hb
        replace h9 := h9.mono hb
        replace h10 := h10.mono hb
        replace h11 := h11.mono hb
        replace h12 := h12.mono hb
        replace h13 := h13.mono hb
        replace h19 := h19.mono hb
        replace cshare_0 := cellK cshare_0 hb
        replace cshare_1 := cellK cshare_1 hb
        replace cconfidence_0 := cellK cconfidence_0 hb
        replace cconfidence_1 := cellK cconfidence_1 hb
        clear hb
        try go_wp2_with fail
        refine hK.out _ _ ⟨cshare_0, cshare_1, cconfidence_0, cconfidence_1⟩ (fun hH => ?_)
        clear hK K
        try simp only [LY]
        clear hH
        refine U_one (i := 5) (by kernel_rfl) rfl (fun K hK => ?_)
        go_simp
        (with_reducible refine (al_Coupons_all _ h19 su h20 sc HD.out HG.out).mono ?_)
        rintro e w25 ⟨rfl, hb⟩
        replace hs := bStep hs hb
        replace Blp := Blp.mono hb
        replace Blshare := Blshare.mono hb
        replace Blconfidence := Blconfidence.mono hb
        replace Blls := Blls.mono hb
        replace Blx := Blx.mono hb
        replace Bly := Bly.mono hb
        replace Blls6 := Blls6.mono hb
        replace h6 := h6.mono hb
        replace h7 := h7.mono hb
        replace h8 := h8.mono hb
        replace h9 := h9.mono hb
        replace h10 := h10.mono hb
        replace h11 := h11.mono hb
        replace h12 := h12.mono hb
        replace h13 := h13.mono hb
        replace h19 := h19.mono hb
        replace h20 := h20.mono hb
        replace cshare_0 := cellK cshare_0 hb
        replace cshare_1 := cellK cshare_1 hb
        replace cconfidence_0 := cellK cconfidence_0 hb
        replace cconfidence_1 := cellK cconfidence_1 hb
        clear hb
        try go_wp2_with fail
        refine hK.out _ _ ⟨cshare_0, cshare_1, cconfidence_0, cconfidence_1⟩ (fun hH => ?_)
        clear hK K
        try simp only [LY]
        refine U_takeN (i := 6) (d := 110) (v := ?_) rfl rfl rfl (by kernel_rfl) (by kernel_rfl) (by kernel_rfl) (fun _ _ _ h => h) (Or.inl ⟨by rfl, ?_⟩) hH ?_
        rotate_left
        · intro w hSw
          try dsimp only at hSw
          go_simp
          try with_reducible rfl
        simp only [LY]
        refine U_takeN (i := 7) (d := 117) (v := ?_) rfl rfl rfl (by kernel_rfl) (by kernel_rfl) (by kernel_rfl) (fun _ _ _ h => h) (Or.inl ⟨by rfl, ?_⟩) hH ?_
        rotate_left
        · intro w hSw
          try dsimp only at hSw
          go_simp
          try with_reducible rfl
        simp only [LY]
        refine U_takeN (i := 8) (d := 118) (v := ?_) rfl rfl rfl (by kernel_rfl) (by kernel_rfl) (by kernel_rfl) (fun _ _ _ h => h) (Or.inl ⟨by rfl, ?_⟩) hH ?_
        rotate_left
        · intro w hSw
          try dsimp only at hSw
          go_simp
          try with_reducible rfl
        simp only [LY]
        refine U_takeN (i := 9) (d := 21) (v := ?_) rfl rfl rfl (by kernel_rfl) (by kernel_rfl) (by kernel_rfl) (fun _ _ _ h => h) (Or.inl ⟨by rfl, ?_⟩) hH ?_
        rotate_left
        · intro w hSw
          try dsimp only at hSw
          go_simp
          try with_reducible rfl
        simp only [LY]
        refine U_takeN (i := 10) (d := 22) (v := ?_) rfl rfl rfl (by kernel_rfl) (by kernel_rfl) (by kernel_rfl) (fun _ _ _ h => h) (Or.inl ⟨by rfl, ?_⟩) hH ?_
        rotate_left
        · intro w hSw
          try dsimp only at hSw
          go_simp
          try with_reducible rfl
        simp only [LY]
        clear hH
        refine U_endN (by kernel_rfl) ?_
        clear cshare_0 cshare_1 cconfidence_0 cconfidence_1
        go_upto_region 12 with fail
        refine U_region (S := fun w' => w'.cell? ⟨w.heap.size + 1, 0, none⟩ = some (.int .i64 n2) ∧ w'.cell? ⟨w.heap.size + 1, 1, none⟩ = some (.int .i64 d2) ∧ w'.cell? ⟨w.heap.size + 1 + 1, 0, none⟩ = some (.int .i64 n3) ∧ w'.cell? ⟨w.heap.size + 1 + 1, 1, none⟩ = some (.int .i64 d3)) (by kernel_rfl) 11 ?_
        refine AnyU.abs ?_
        intro w26 hW
        have hb : Below w25.heap.size w25 w26 := by rw [hW]; exact bDrew _
        replace hs := bStep hs hb
        replace Blp := Blp.mono hb
        replace Blshare := Blshare.mono hb
        replace Blconfidence := Blconfidence.mono hb
        replace Blls := Blls.mono hb
        replace Blx := Blx.mono hb
        replace Bly := Bly.mono hb
        replace Blls6 := Blls6.mono hb
        replace h6 := h6.mono hb
        replace h7 := h7.mono hb
        replace h8 := h8.mono hb
        replace h9 := h9.mono hb
        replace h10 := h10.mono hb
        replace h11 := h11.mono hb
        replace h12 := h12.mono hb
        replace h13 := h13.mono hb
        replace h19 := h19.mono hb
        replace h20 := h20.mono hb
        clear hb hW
        have cshare_0 : w26.cell? ⟨w.heap.size + 1, 0, none⟩ = some (.int .i64 n2) := Blshare.at 0 rfl
        have cshare_1 : w26.cell? ⟨w.heap.size + 1, 1, none⟩ = some (.int .i64 d2) := Blshare.at 1 rfl
        have cconfidence_0 : w26.cell? ⟨w.heap.size + 1 + 1, 0, none⟩ = some (.int .i64 n3) := Blconfidence.at 0 rfl
        have cconfidence_1 : w26.cell? ⟨w.heap.size + 1 + 1, 1, none⟩ = some (.int .i64 d3) := Blconfidence.at 1 rfl
        have hH := (show w26.cell? ⟨w.heap.size + 1, 0, none⟩ = some (.int .i64 n2) ∧ w26.cell? ⟨w.heap.size + 1, 1, none⟩ = some (.int .i64 d2) ∧ w26.cell? ⟨w.heap.size + 1 + 1, 0, none⟩ = some (.int .i64 n3) ∧ w26.cell? ⟨w.heap.size + 1 + 1, 1, none⟩ = some (.int .i64 d3) from ⟨cshare_0, cshare_1, cconfidence_0, cconfidence_1⟩)
        refine U_takeN (i := 0) (d := 120) (v := ?_) rfl rfl rfl (by kernel_rfl) (by kernel_rfl) (by kernel_rfl) (fun _ _ _ h => h) (Or.inl ⟨by rfl, ?_⟩) hH ?_
        rotate_left
        · intro w hSw
          try dsimp only at hSw
          go_simp
          try with_reducible rfl
        simp only [LY]
        refine U_takeN (i := 1) (d := 121) (v := ?_) rfl rfl rfl (by kernel_rfl) (by kernel_rfl) (by kernel_rfl) (fun _ _ _ h => h) (Or.inl ⟨by rfl, ?_⟩) hH ?_
        rotate_left
        · intro w hSw
          try dsimp only at hSw
          go_simp
          try with_reducible rfl
        simp only [LY]
        refine U_takeN (i := 3) (d := 123) (v := ?_) rfl rfl rfl (by kernel_rfl) (by kernel_rfl) (by kernel_rfl) (fun _ _ _ h => h) (Or.inl ⟨by rfl, ?_⟩) hH ?_
        rotate_left
        · intro w hSw
          try dsimp only at hSw
          go_simp
          try with_reducible rfl
        simp only [LY]
        clear hH
        refine U_one (i := 2) (by kernel_rfl) rfl (fun K hK => ?_)
        go_simp
        (with_reducible refine (r1_Of_ _ O2.out HU.out).mono ?_)
        rintro e w27 ⟨_, rfl, h21, hb⟩
        obtain ⟨sh21, ah21, nh21, ch21, Ah21, Nh21, Ch21, rfl⟩ := h21.shape
        replace hs := bStep hs hb
        replace Blp := Blp.mono hb
        replace Blshare := Blshare.mono hb
        replace Blconfidence := Blconfidence.mono hb
        replace Blls := Blls.mono hb
        replace Blx := Blx.mono hb
        replace Bly := Bly.mono hb
        replace Blls6 := Blls6.mono hb
        replace h6 := h6.mono hb
        replace h7 := h7.mono hb
        replace h8 := h8.mono hb
        replace h9 := h9.mono hb
        replace h10 := h10.mono hb
        replace h11 := h11.mono hb
        replace h12 := h12.mono hb
        replace h13 := h13.mono hb
        replace h19 := h19.mono hb
        replace h20 := h20.mono hb
        replace cshare_0 := cellK cshare_0 hb
        replace cshare_1 := cellK cshare_1 hb
        replace cconfidence_0 := cellK cconfidence_0 hb
        replace cconfidence_1 := cellK cconfidence_1 hb
        clear hb
        try go_wp2_with fail
        refine hK.out _ _ ⟨cshare_0, cshare_1, cconfidence_0, cconfidence_1⟩ (fun hH => ?_)
        clear hK K
        try simp only [LY]
        clear hH
        refine U_one (i := 4) (by kernel_rfl) rfl (fun K hK => ?_)
        go_simp
        (with_reducible refine (r1_Of_ _ O3.out HC.out).mono ?_)
        rintro e w28 ⟨_, rfl, h22, hb⟩
        obtain ⟨sh22, ah22, nh22, ch22, Ah22, Nh22, Ch22, rfl⟩ := h22.shape
        replace hs := bStep hs hb
        replace Blp := Blp.mono hb
        replace Blshare := Blshare.mono hb
        replace Blconfidence := Blconfidence.mono hb
        replace Blls := Blls.mono hb
        replace Blx := Blx.mono hb
        replace Bly := Bly.mono hb
        replace Blls6 := Blls6.mono hb
        replace h6 := h6.mono hb
        replace h7 := h7.mono hb
        replace h8 := h8.mono hb
        replace h9 := h9.mono hb
        replace h10 := h10.mono hb
        replace h11 := h11.mono hb
        replace h12 := h12.mono hb
        replace h13 := h13.mono hb
        replace h19 := h19.mono hb
        replace h20 := h20.mono hb
        replace h21 := h21.mono hb
        replace cshare_0 := cellK cshare_0 hb
        replace cshare_1 := cellK cshare_1 hb
        replace cconfidence_0 := cellK cconfidence_0 hb
        replace cconfidence_1 := cellK cconfidence_1 hb
        clear hb
        try go_wp2_with fail
        refine hK.out _ _ ⟨cshare_0, cshare_1, cconfidence_0, cconfidence_1⟩ (fun hH => ?_)
        clear hK K
        try simp only [LY]
        clear hH
        refine U_one (i := 5) (by kernel_rfl) rfl (fun K hK => ?_)
        go_simp
        (with_reducible refine (r8_Coupons_all _ h21 su h22 sc HD.out HG.out).mono ?_)
        rintro e w29 ⟨rfl, hb⟩
        replace hs := bStep hs hb
        replace Blp := Blp.mono hb
        replace Blshare := Blshare.mono hb
        replace Blconfidence := Blconfidence.mono hb
        replace Blls := Blls.mono hb
        replace Blx := Blx.mono hb
        replace Bly := Bly.mono hb
        replace Blls6 := Blls6.mono hb
        replace h6 := h6.mono hb
        replace h7 := h7.mono hb
        replace h8 := h8.mono hb
        replace h9 := h9.mono hb
        replace h10 := h10.mono hb
        replace h11 := h11.mono hb
        replace h12 := h12.mono hb
        replace h13 := h13.mono hb
        replace h19 := h19.mono hb
        replace h20 := h20.mono hb
        replace h21 := h21.mono hb
        replace h22 := h22.mono hb
        replace cshare_0 := cellK cshare_0 hb
        replace cshare_1 := cellK cshare_1 hb
        replace cconfidence_0 := cellK cconfidence_0 hb
        replace cconfidence_1 := cellK cconfidence_1 hb
        clear hb
        try go_wp2_with fail
        refine hK.out _ _ ⟨cshare_0, cshare_1, cconfidence_0, cconfidence_1⟩ (fun hH => ?_)
        clear hK K
        try simp only [LY]
        refine U_takeN (i := 6) (d := 119) (v := ?_) rfl rfl rfl (by kernel_rfl) (by kernel_rfl) (by kernel_rfl) (fun _ _ _ h => h) (Or.inl ⟨by rfl, ?_⟩) hH ?_
        rotate_left
        · intro w hSw
          try dsimp only at hSw
          go_simp
          try with_reducible rfl
        simp only [LY]
        refine U_takeN (i := 7) (d := 126) (v := ?_) rfl rfl rfl (by kernel_rfl) (by kernel_rfl) (by kernel_rfl) (fun _ _ _ h => h) (Or.inl ⟨by rfl, ?_⟩) hH ?_
        rotate_left
        · intro w hSw
          try dsimp only at hSw
          go_simp
          try with_reducible rfl
        simp only [LY]
        refine U_takeN (i := 8) (d := 127) (v := ?_) rfl rfl rfl (by kernel_rfl) (by kernel_rfl) (by kernel_rfl) (fun _ _ _ h => h) (Or.inl ⟨by rfl, ?_⟩) hH ?_
        rotate_left
        · intro w hSw
          try dsimp only at hSw
          go_simp
          try with_reducible rfl
        simp only [LY]
        refine U_takeN (i := 9) (d := 23) (v := ?_) rfl rfl rfl (by kernel_rfl) (by kernel_rfl) (by kernel_rfl) (fun _ _ _ h => h) (Or.inl ⟨by rfl, ?_⟩) hH ?_
        rotate_left
        · intro w hSw
          try dsimp only at hSw
          go_simp
          try with_reducible rfl
        simp only [LY]
        refine U_takeN (i := 10) (d := 24) (v := ?_) rfl rfl rfl (by kernel_rfl) (by kernel_rfl) (by kernel_rfl) (fun _ _ _ h => h) (Or.inl ⟨by rfl, ?_⟩) hH ?_
        rotate_left
        · intro w hSw
          try dsimp only at hSw
          go_simp
          try with_reducible rfl
        simp only [LY]
        clear hH
        refine U_endN (by kernel_rfl) ?_
        clear cshare_0 cshare_1 cconfidence_0 cconfidence_1
        have q23b : (d == d) = true := beq_self_eq_true _
        have q23n : (d != d) = false := bne_self_eq_false _
        have q24b : (g == g) = true := beq_self_eq_true _
        have q24n : (g != g) = false := bne_self_eq_false _
        go_wp2
        go_ret
        exact ⟨rfl, hs⟩
      · obtain rfl : b17 = false := by rw [Hb17.out]; simpa using q18
        have q18H := Lib.hid q18
        clear q18
        go_wp2
        go_ret
        exact ⟨rfl, hs⟩
    · have q4d : ((4 : Int) < m) = False := eq_false (by omega)
      have cp_0 : w4.cell? ⟨w.heap.size, 0, none⟩ = some (.int .i64 n1) := Blp.at 0 rfl
      have cp_1 : w4.cell? ⟨w.heap.size, 1, none⟩ = some (.int .i64 d1) := Blp.at 1 rfl
      have Lp : w.heap.size < w4.heap.size := Blp.lt
      go_wp2_with fail
      clear cp_0 cp_1 Lp
      with_reducible refine (l1_Of_ _ O1.out HP.out).mono ?_
      rintro e w5 ⟨_, rfl, h5, hb⟩
      obtain ⟨sh5, ah5, nh5, ch5, Ah5, Nh5, Ch5, rfl⟩ := h5.shape
      replace hs := bStep hs hb
      replace Blp := Blp.mono hb
      replace Blshare := Blshare.mono hb
      replace Blconfidence := Blconfidence.mono hb
      replace Blls := Blls.mono hb
      clear hb
      go_wp2_with fail
      with_reducible refine (al_Tail_all _ h5 sp (by omega) HQ.out HE.out).mono ?_
      rintro e w6 ⟨_, rfl, h6, hb⟩
      obtain ⟨sh6, ah6, nh6, ch6, Ah6, Nh6, Ch6, rfl⟩ := h6.shape
      replace hs := bStep hs hb
      replace Blp := Blp.mono hb
      replace Blshare := Blshare.mono hb
      replace Blconfidence := Blconfidence.mono hb
      replace Blls := Blls.mono hb
      replace h5 := h5.mono hb
      clear hb
      have cp_0 : w6.cell? ⟨w.heap.size, 0, none⟩ = some (.int .i64 n1) := Blp.at 0 rfl
      have cp_1 : w6.cell? ⟨w.heap.size, 1, none⟩ = some (.int .i64 d1) := Blp.at 1 rfl
      have Lp : w.heap.size < w6.heap.size := Blp.lt
      go_wp2_with fail
      clear cp_0 cp_1 Lp
      refine Calls.abs ?_
      intro w7 hW
      have hG : Gr [] w6 w7 := by rw [hW]; exact (Gr.refl _ _).alloc
      have hbw : Below w.heap.size w6 w7 := hG.below0 hs.size
      have hk : KeepD w6 w7 := hG.keep True.intro
      have sz_w7 : w.heap.size ≤ w6.heap.size := hs.size
      have np_w7 : w.heap.size < w6.heap.size := Blp.lt
      have nshare_w7 : w.heap.size + 1 < w6.heap.size := Blshare.lt
      have nconfidence_w7 : w.heap.size + 1 + 1 < w6.heap.size := Blconfidence.lt
      have nls_w7 : w2.heap.size < w6.heap.size := Blls.lt
      have Blx : Bx w7 (w6.heap.size) 29 #[.bool sh6, .slice ah6 nh6 ch6, .slice Ah6 Nh6 Ch6] := by rw [hW]; exact (Bx.new0 _ _ _)
      replace hs := hs.trans hbw
      replace Blp := hG.bx Blp notMem0
      replace Blshare := hG.bx Blshare notMem0
      replace Blconfidence := hG.bx Blconfidence notMem0
      replace Blls := hG.bx Blls notMem0
      replace h5 := h5.keep hk
      replace h6 := h6.keep hk
      clear hW hG hk hbw
      have hz_w7 : w6.heap.size < w7.heap.size := Blx.lt
      with_reducible refine (r1_Of_ _ O1.out HP.out).mono ?_
      rintro e w8 ⟨_, rfl, h7, hb⟩
      obtain ⟨sh7, ah7, nh7, ch7, Ah7, Nh7, Ch7, rfl⟩ := h7.shape
      replace hs := bStep hs hb
      replace Blp := Blp.mono hb
      replace Blshare := Blshare.mono hb
      replace Blconfidence := Blconfidence.mono hb
      replace Blls := Blls.mono hb
      replace Blx := Blx.mono hb
      replace h5 := h5.mono hb
      replace h6 := h6.mono hb
      clear hb
      go_wp2_with fail
      with_reducible refine (r8_Tail_all _ h7 sp (by omega) HQ.out HE.out).mono ?_
      rintro e w9 ⟨_, rfl, h8, hb⟩
      obtain ⟨sh8, ah8, nh8, ch8, Ah8, Nh8, Ch8, rfl⟩ := h8.shape
      replace hs := bStep hs hb
      replace Blp := Blp.mono hb
      replace Blshare := Blshare.mono hb
      replace Blconfidence := Blconfidence.mono hb
      replace Blls := Blls.mono hb
      replace Blx := Blx.mono hb
      replace h5 := h5.mono hb
      replace h6 := h6.mono hb
      replace h7 := h7.mono hb
      clear hb
      go_upto_region 5 with fail
      refine Code.abs ?_
      intro w10 hW
      have hG : Gr [] w9 w10 := by rw [hW]; exact (Gr.refl _ _).alloc
      have hbw : Below w.heap.size w9 w10 := hG.below0 hs.size
      have hk : KeepD w9 w10 := hG.keep True.intro
      have sz_w10 : w.heap.size ≤ w9.heap.size := hs.size
      have np_w10 : w.heap.size < w9.heap.size := Blp.lt
      have nshare_w10 : w.heap.size + 1 < w9.heap.size := Blshare.lt
      have nconfidence_w10 : w.heap.size + 1 + 1 < w9.heap.size := Blconfidence.lt
      have nls_w10 : w2.heap.size < w9.heap.size := Blls.lt
      have nx_w10 : w6.heap.size < w9.heap.size := Blx.lt
      have Bly : Bx w10 (w9.heap.size) 36 #[.bool sh8, .slice ah8 nh8 ch8, .slice Ah8 Nh8 Ch8] := by rw [hW]; exact (Bx.new0 _ _ _)
      replace hs := hs.trans hbw
      replace Blp := hG.bx Blp notMem0
      replace Blshare := hG.bx Blshare notMem0
      replace Blconfidence := hG.bx Blconfidence notMem0
      replace Blls := hG.bx Blls notMem0
      replace Blx := hG.bx Blx notMem0
      replace h5 := h5.keep hk
      replace h6 := h6.keep hk
      replace h7 := h7.keep hk
      replace h8 := h8.keep hk
      clear hW hG hk hbw
      have hz_w10 : w9.heap.size < w10.heap.size := Bly.lt
      refine U_region (S := fun w' => w'.cell? ⟨w.heap.size + 1, 0, none⟩ = some (.int .i64 n2) ∧ w'.cell? ⟨w.heap.size + 1, 1, none⟩ = some (.int .i64 d2) ∧ w'.cell? ⟨w.heap.size + 1 + 1, 0, none⟩ = some (.int .i64 n3) ∧ w'.cell? ⟨w.heap.size + 1 + 1, 1, none⟩ = some (.int .i64 d3)) (by kernel_rfl) 11 ?_
      refine AnyU.abs ?_
      intro w11 hW
      have hb : Below w10.heap.size w10 w11 := by rw [hW]; exact bDrew _
      replace hs := bStep hs hb
      replace Blp := Blp.mono hb
      replace Blshare := Blshare.mono hb
      replace Blconfidence := Blconfidence.mono hb
      replace Blls := Blls.mono hb
      replace Blx := Blx.mono hb
      replace Bly := Bly.mono hb
      replace h5 := h5.mono hb
      replace h6 := h6.mono hb
      replace h7 := h7.mono hb
      replace h8 := h8.mono hb
      clear hb hW
      have cshare_0 : w11.cell? ⟨w.heap.size + 1, 0, none⟩ = some (.int .i64 n2) := Blshare.at 0 rfl
      have cshare_1 : w11.cell? ⟨w.heap.size + 1, 1, none⟩ = some (.int .i64 d2) := Blshare.at 1 rfl
      have cconfidence_0 : w11.cell? ⟨w.heap.size + 1 + 1, 0, none⟩ = some (.int .i64 n3) := Blconfidence.at 0 rfl
      have cconfidence_1 : w11.cell? ⟨w.heap.size + 1 + 1, 1, none⟩ = some (.int .i64 d3) := Blconfidence.at 1 rfl
      have hH := (show w11.cell? ⟨w.heap.size + 1, 0, none⟩ = some (.int .i64 n2) ∧ w11.cell? ⟨w.heap.size + 1, 1, none⟩ = some (.int .i64 d2) ∧ w11.cell? ⟨w.heap.size + 1 + 1, 0, none⟩ = some (.int .i64 n3) ∧ w11.cell? ⟨w.heap.size + 1 + 1, 1, none⟩ = some (.int .i64 d3) from ⟨cshare_0, cshare_1, cconfidence_0, cconfidence_1⟩)
      refine U_takeN (i := 0) (d := 69) (v := ?_) rfl rfl rfl (by kernel_rfl) (by kernel_rfl) (by kernel_rfl) (fun _ _ _ h => h) (Or.inl ⟨by rfl, ?_⟩) hH ?_
      rotate_left
      · intro w hSw
        try dsimp only at hSw
        go_simp
        try with_reducible rfl
      simp only [LY]
      refine U_takeN (i := 1) (d := 70) (v := ?_) rfl rfl rfl (by kernel_rfl) (by kernel_rfl) (by kernel_rfl) (fun _ _ _ h => h) (Or.inl ⟨by rfl, ?_⟩) hH ?_
      rotate_left
      · intro w hSw
        try dsimp only at hSw
        go_simp
        try with_reducible rfl
      simp only [LY]
      refine U_takeN (i := 3) (d := 72) (v := ?_) rfl rfl rfl (by kernel_rfl) (by kernel_rfl) (by kernel_rfl) (fun _ _ _ h => h) (Or.inl ⟨by rfl, ?_⟩) hH ?_
      rotate_left
      · intro w hSw
        try dsimp only at hSw
        go_simp
        try with_reducible rfl
      simp only [LY]
      clear hH
      refine U_one (i := 2) (by kernel_rfl) rfl (fun K hK => ?_)
      go_simp
      (with_reducible refine (l1_Of_ _ O2.out HU.out).mono ?_)
      rintro e w12 ⟨_, rfl, h9, hb⟩
      obtain ⟨sh9, ah9, nh9, ch9, Ah9, Nh9, Ch9, rfl⟩ := h9.shape
      replace hs := bStep hs hb
      replace Blp := Blp.mono hb
      replace Blshare := Blshare.mono hb
      replace Blconfidence := Blconfidence.mono hb
      replace Blls := Blls.mono hb
      replace Blx := Blx.mono hb
      replace Bly := Bly.mono hb
      replace h5 := h5.mono hb
      replace h6 := h6.mono hb
      replace h7 := h7.mono hb
      replace h8 := h8.mono hb
      replace cshare_0 := cellK cshare_0 hb
      replace cshare_1 := cellK cshare_1 hb
      replace cconfidence_0 := cellK cconfidence_0 hb
      replace cconfidence_1 := cellK cconfidence_1 hb
      clear hb
      try go_wp2_with fail
      refine hK.out _ _ ⟨cshare_0, cshare_1, cconfidence_0, cconfidence_1⟩ (fun hH => ?_)
      clear hK K
      try simp only [LY]
      clear hH
      refine U_one (i := 4) (by kernel_rfl) rfl (fun K hK => ?_)
      go_simp
      (with_reducible refine (l1_Of_ _ O3.out HC.out).mono ?_)
      rintro e w13 ⟨_, rfl, h10, hb⟩
      obtain ⟨sh10, ah10, nh10, ch10, Ah10, Nh10, Ch10, rfl⟩ := h10.shape
      replace hs := bStep hs hb
      replace Blp := Blp.mono hb
      replace Blshare := Blshare.mono hb
      replace Blconfidence := Blconfidence.mono hb
      replace Blls := Blls.mono hb
      replace Blx := Blx.mono hb
      replace Bly := Bly.mono hb
      replace h5 := h5.mono hb
      replace h6 := h6.mono hb
      replace h7 := h7.mono hb
      replace h8 := h8.mono hb
      replace h9 := h9.mono hb
      replace cshare_0 := cellK cshare_0 hb
      replace cshare_1 := cellK cshare_1 hb
      replace cconfidence_0 := cellK cconfidence_0 hb
      replace cconfidence_1 := cellK cconfidence_1 hb
      clear hb
      try go_wp2_with fail
      refine hK.out _ _ ⟨cshare_0, cshare_1, cconfidence_0, cconfidence_1⟩ (fun hH => ?_)
      clear hK K
      try simp only [LY]
      clear hH
      refine U_one (i := 5) (by kernel_rfl) rfl (fun K hK => ?_)
      go_simp
      (with_reducible refine (al_Rank_all _ h9 su h10 sc HR.out HF.out).mono ?_)
      rintro e w14 ⟨rfl, hb⟩
      replace hs := bStep hs hb
      replace Blp := Blp.mono hb
      replace Blshare := Blshare.mono hb
      replace Blconfidence := Blconfidence.mono hb
      replace Blls := Blls.mono hb
      replace Blx := Blx.mono hb
      replace Bly := Bly.mono hb
      replace h5 := h5.mono hb
      replace h6 := h6.mono hb
      replace h7 := h7.mono hb
      replace h8 := h8.mono hb
      replace h9 := h9.mono hb
      replace h10 := h10.mono hb
      replace cshare_0 := cellK cshare_0 hb
      replace cshare_1 := cellK cshare_1 hb
      replace cconfidence_0 := cellK cconfidence_0 hb
      replace cconfidence_1 := cellK cconfidence_1 hb
      clear hb
      try go_wp2_with fail
      refine hK.out _ _ ⟨cshare_0, cshare_1, cconfidence_0, cconfidence_1⟩ (fun hH => ?_)
      clear hK K
      try simp only [LY]
      refine U_takeN (i := 6) (d := 68) (v := ?_) rfl rfl rfl (by kernel_rfl) (by kernel_rfl) (by kernel_rfl) (fun _ _ _ h => h) (Or.inl ⟨by rfl, ?_⟩) hH ?_
      rotate_left
      · intro w hSw
        try dsimp only at hSw
        go_simp
        try with_reducible rfl
      simp only [LY]
      refine U_takeN (i := 7) (d := 75) (v := ?_) rfl rfl rfl (by kernel_rfl) (by kernel_rfl) (by kernel_rfl) (fun _ _ _ h => h) (Or.inl ⟨by rfl, ?_⟩) hH ?_
      rotate_left
      · intro w hSw
        try dsimp only at hSw
        go_simp
        try with_reducible rfl
      simp only [LY]
      refine U_takeN (i := 8) (d := 76) (v := ?_) rfl rfl rfl (by kernel_rfl) (by kernel_rfl) (by kernel_rfl) (fun _ _ _ h => h) (Or.inl ⟨by rfl, ?_⟩) hH ?_
      rotate_left
      · intro w hSw
        try dsimp only at hSw
        go_simp
        try with_reducible rfl
      simp only [LY]
      refine U_takeN (i := 9) (d := 17) (v := ?_) rfl rfl rfl (by kernel_rfl) (by kernel_rfl) (by kernel_rfl) (fun _ _ _ h => h) (Or.inl ⟨by rfl, ?_⟩) hH ?_
      rotate_left
      · intro w hSw
        try dsimp only at hSw
        go_simp
        try with_reducible rfl
      simp only [LY]
      refine U_takeN (i := 10) (d := 18) (v := ?_) rfl rfl rfl (by kernel_rfl) (by kernel_rfl) (by kernel_rfl) (fun _ _ _ h => h) (Or.inl ⟨by rfl, ?_⟩) hH ?_
      rotate_left
      · intro w hSw
        try dsimp only at hSw
        go_simp
        try with_reducible rfl
      simp only [LY]
      clear hH
      refine U_endN (by kernel_rfl) ?_
      clear cshare_0 cshare_1 cconfidence_0 cconfidence_1
      go_upto_region 6 with fail
      refine U_region (S := fun w' => w'.cell? ⟨w.heap.size + 1, 0, none⟩ = some (.int .i64 n2) ∧ w'.cell? ⟨w.heap.size + 1, 1, none⟩ = some (.int .i64 d2) ∧ w'.cell? ⟨w.heap.size + 1 + 1, 0, none⟩ = some (.int .i64 n3) ∧ w'.cell? ⟨w.heap.size + 1 + 1, 1, none⟩ = some (.int .i64 d3)) (by kernel_rfl) 11 ?_
      refine AnyU.abs ?_
      intro w15 hW
      have hb : Below w14.heap.size w14 w15 := by rw [hW]; exact bDrew _
      replace hs := bStep hs hb
      replace Blp := Blp.mono hb
      replace Blshare := Blshare.mono hb
      replace Blconfidence := Blconfidence.mono hb
      replace Blls := Blls.mono hb
      replace Blx := Blx.mono hb
      replace Bly := Bly.mono hb
      replace h5 := h5.mono hb
      replace h6 := h6.mono hb
      replace h7 := h7.mono hb
      replace h8 := h8.mono hb
      replace h9 := h9.mono hb
      replace h10 := h10.mono hb
      clear hb hW
      have cshare_0 : w15.cell? ⟨w.heap.size + 1, 0, none⟩ = some (.int .i64 n2) := Blshare.at 0 rfl
      have cshare_1 : w15.cell? ⟨w.heap.size + 1, 1, none⟩ = some (.int .i64 d2) := Blshare.at 1 rfl
      have cconfidence_0 : w15.cell? ⟨w.heap.size + 1 + 1, 0, none⟩ = some (.int .i64 n3) := Blconfidence.at 0 rfl
      have cconfidence_1 : w15.cell? ⟨w.heap.size + 1 + 1, 1, none⟩ = some (.int .i64 d3) := Blconfidence.at 1 rfl
      have hH := (show w15.cell? ⟨w.heap.size + 1, 0, none⟩ = some (.int .i64 n2) ∧ w15.cell? ⟨w.heap.size + 1, 1, none⟩ = some (.int .i64 d2) ∧ w15.cell? ⟨w.heap.size + 1 + 1, 0, none⟩ = some (.int .i64 n3) ∧ w15.cell? ⟨w.heap.size + 1 + 1, 1, none⟩ = some (.int .i64 d3) from ⟨cshare_0, cshare_1, cconfidence_0, cconfidence_1⟩)
      refine U_takeN (i := 0) (d := 78) (v := ?_) rfl rfl rfl (by kernel_rfl) (by kernel_rfl) (by kernel_rfl) (fun _ _ _ h => h) (Or.inl ⟨by rfl, ?_⟩) hH ?_
      rotate_left
      · intro w hSw
        try dsimp only at hSw
        go_simp
        try with_reducible rfl
      simp only [LY]
      refine U_takeN (i := 1) (d := 79) (v := ?_) rfl rfl rfl (by kernel_rfl) (by kernel_rfl) (by kernel_rfl) (fun _ _ _ h => h) (Or.inl ⟨by rfl, ?_⟩) hH ?_
      rotate_left
      · intro w hSw
        try dsimp only at hSw
        go_simp
        try with_reducible rfl
      simp only [LY]
      refine U_takeN (i := 3) (d := 81) (v := ?_) rfl rfl rfl (by kernel_rfl) (by kernel_rfl) (by kernel_rfl) (fun _ _ _ h => h) (Or.inl ⟨by rfl, ?_⟩) hH ?_
      rotate_left
      · intro w hSw
        try dsimp only at hSw
        go_simp
        try with_reducible rfl
      simp only [LY]
      clear hH
      refine U_one (i := 2) (by kernel_rfl) rfl (fun K hK => ?_)
      go_simp
      (with_reducible refine (r1_Of_ _ O2.out HU.out).mono ?_)
      rintro e w16 ⟨_, rfl, h11, hb⟩
      obtain ⟨sh11, ah11, nh11, ch11, Ah11, Nh11, Ch11, rfl⟩ := h11.shape
      replace hs := bStep hs hb
      replace Blp := Blp.mono hb
      replace Blshare := Blshare.mono hb
      replace Blconfidence := Blconfidence.mono hb
      replace Blls := Blls.mono hb
      replace Blx := Blx.mono hb
      replace Bly := Bly.mono hb
      replace h5 := h5.mono hb
      replace h6 := h6.mono hb
      replace h7 := h7.mono hb
      replace h8 := h8.mono hb
      replace h9 := h9.mono hb
      replace h10 := h10.mono hb
      replace cshare_0 := cellK cshare_0 hb
      replace cshare_1 := cellK cshare_1 hb
      replace cconfidence_0 := cellK cconfidence_0 hb
      replace cconfidence_1 := cellK cconfidence_1 hb
      clear hb
      try go_wp2_with fail
      refine hK.out _ _ ⟨cshare_0, cshare_1, cconfidence_0, cconfidence_1⟩ (fun hH => ?_)
      clear hK K
      try simp only [LY]
      clear hH
      refine U_one (i := 4) (by kernel_rfl) rfl (fun K hK => ?_)
      go_simp
      (with_reducible refine (r1_Of_ _ O3.out HC.out).mono ?_)
      rintro e w17 ⟨_, rfl, h12, hb⟩
      obtain ⟨sh12, ah12, nh12, ch12, Ah12, Nh12, Ch12, rfl⟩ := h12.shape
      replace hs := bStep hs hb
      replace Blp := Blp.mono hb
      replace Blshare := Blshare.mono hb
      replace Blconfidence := Blconfidence.mono hb
      replace Blls := Blls.mono hb
      replace Blx := Blx.mono hb
      replace Bly := Bly.mono hb
      replace h5 := h5.mono hb
      replace h6 := h6.mono hb
      replace h7 := h7.mono hb
      replace h8 := h8.mono hb
      replace h9 := h9.mono hb
      replace h10 := h10.mono hb
      replace h11 := h11.mono hb
      replace cshare_0 := cellK cshare_0 hb
      replace cshare_1 := cellK cshare_1 hb
      replace cconfidence_0 := cellK cconfidence_0 hb
      replace cconfidence_1 := cellK cconfidence_1 hb
      clear hb
      try go_wp2_with fail
      refine hK.out _ _ ⟨cshare_0, cshare_1, cconfidence_0, cconfidence_1⟩ (fun hH => ?_)
      clear hK K
      try simp only [LY]
      clear hH
      refine U_one (i := 5) (by kernel_rfl) rfl (fun K hK => ?_)
      go_simp
      (with_reducible refine (r8_Rank_all _ h11 su h12 sc HR.out HF.out).mono ?_)
      rintro e w18 ⟨rfl, hb⟩
      replace hs := bStep hs hb
      replace Blp := Blp.mono hb
      replace Blshare := Blshare.mono hb
      replace Blconfidence := Blconfidence.mono hb
      replace Blls := Blls.mono hb
      replace Blx := Blx.mono hb
      replace Bly := Bly.mono hb
      replace h5 := h5.mono hb
      replace h6 := h6.mono hb
      replace h7 := h7.mono hb
      replace h8 := h8.mono hb
      replace h9 := h9.mono hb
      replace h10 := h10.mono hb
      replace h11 := h11.mono hb
      replace h12 := h12.mono hb
      replace cshare_0 := cellK cshare_0 hb
      replace cshare_1 := cellK cshare_1 hb
      replace cconfidence_0 := cellK cconfidence_0 hb
      replace cconfidence_1 := cellK cconfidence_1 hb
      clear hb
      try go_wp2_with fail
      refine hK.out _ _ ⟨cshare_0, cshare_1, cconfidence_0, cconfidence_1⟩ (fun hH => ?_)
      clear hK K
      try simp only [LY]
      refine U_takeN (i := 6) (d := 77) (v := ?_) rfl rfl rfl (by kernel_rfl) (by kernel_rfl) (by kernel_rfl) (fun _ _ _ h => h) (Or.inl ⟨by rfl, ?_⟩) hH ?_
      rotate_left
      · intro w hSw
        try dsimp only at hSw
        go_simp
        try with_reducible rfl
      simp only [LY]
      refine U_takeN (i := 7) (d := 84) (v := ?_) rfl rfl rfl (by kernel_rfl) (by kernel_rfl) (by kernel_rfl) (fun _ _ _ h => h) (Or.inl ⟨by rfl, ?_⟩) hH ?_
      rotate_left
      · intro w hSw
        try dsimp only at hSw
        go_simp
        try with_reducible rfl
      simp only [LY]
      refine U_takeN (i := 8) (d := 85) (v := ?_) rfl rfl rfl (by kernel_rfl) (by kernel_rfl) (by kernel_rfl) (fun _ _ _ h => h) (Or.inl ⟨by rfl, ?_⟩) hH ?_
      rotate_left
      · intro w hSw
        try dsimp only at hSw
        go_simp
        try with_reducible rfl
      simp only [LY]
      refine U_takeN (i := 9) (d := 19) (v := ?_) rfl rfl rfl (by kernel_rfl) (by kernel_rfl) (by kernel_rfl) (fun _ _ _ h => h) (Or.inl ⟨by rfl, ?_⟩) hH ?_
      rotate_left
      · intro w hSw
        try dsimp only at hSw
        go_simp
        try with_reducible rfl
      simp only [LY]
      refine U_takeN (i := 10) (d := 20) (v := ?_) rfl rfl rfl (by kernel_rfl) (by kernel_rfl) (by kernel_rfl) (fun _ _ _ h => h) (Or.inl ⟨by rfl, ?_⟩) hH ?_
      rotate_left
      · intro w hSw
        try dsimp only at hSw
        go_simp
        try with_reducible rfl
      simp only [LY]
      clear hH
      refine U_endN (by kernel_rfl) ?_
      clear cshare_0 cshare_1 cconfidence_0 cconfidence_1
      have q13b : (e == e) = true := beq_self_eq_true _
      have q13n : (e != e) = false := bne_self_eq_false _
      have q14b : (f == f) = true := beq_self_eq_true _
      have q14n : (f != f) = false := bne_self_eq_false _
      have cx_0 : w18.cell? ⟨w6.heap.size, 0, none⟩ = some (.bool sh6) := Blx.at 0 rfl
      have cx_1 : w18.cell? ⟨w6.heap.size, 1, none⟩ = some (.slice ah6 nh6 ch6) := Blx.at 1 rfl
      have cx_2 : w18.cell? ⟨w6.heap.size, 2, none⟩ = some (.slice Ah6 Nh6 Ch6) := Blx.at 2 rfl
      have Lx : w6.heap.size < w18.heap.size := Blx.lt
      have cy_0 : w18.cell? ⟨w9.heap.size, 0, none⟩ = some (.bool sh8) := Bly.at 0 rfl
      have cy_1 : w18.cell? ⟨w9.heap.size, 1, none⟩ = some (.slice ah8 nh8 ch8) := Bly.at 1 rfl
      have cy_2 : w18.cell? ⟨w9.heap.size, 2, none⟩ = some (.slice Ah8 Nh8 Ch8) := Bly.at 2 rfl
      have Ly : w9.heap.size < w18.heap.size := Bly.lt
      go_wp2_with fail
      clear cx_0 cx_1 cx_2 cy_0 cy_1 cy_2 Lx Ly
      with_reducible refine (l1_Is _ _ _ _ h6 h8 (SzQ.fit sq)).mono ?_
      rintro e w19 ⟨rfl, hb⟩
      replace hs := bStep hs hb
      replace Blp := Blp.mono hb
      replace Blshare := Blshare.mono hb
      replace Blconfidence := Blconfidence.mono hb
      replace Blls := Blls.mono hb
      replace Blx := Blx.mono hb
      replace Bly := Bly.mono hb
      replace h5 := h5.mono hb
      replace h6 := h6.mono hb
      replace h7 := h7.mono hb
      replace h8 := h8.mono hb
      replace h9 := h9.mono hb
      replace h10 := h10.mono hb
      replace h11 := h11.mono hb
      replace h12 := h12.mono hb
      clear hb
      have q15b : (r == r) = true := beq_self_eq_true _
      have q15n : (r != r) = false := bne_self_eq_false _
      have cshare_0 : w19.cell? ⟨w.heap.size + 1, 0, none⟩ = some (.int .i64 n2) := Blshare.at 0 rfl
      have cshare_1 : w19.cell? ⟨w.heap.size + 1, 1, none⟩ = some (.int .i64 d2) := Blshare.at 1 rfl
      have Lshare : w.heap.size + 1 < w19.heap.size := Blshare.lt
      have cconfidence_0 : w19.cell? ⟨w.heap.size + 1 + 1, 0, none⟩ = some (.int .i64 n3) := Blconfidence.at 0 rfl
      have cconfidence_1 : w19.cell? ⟨w.heap.size + 1 + 1, 1, none⟩ = some (.int .i64 d3) := Blconfidence.at 1 rfl
      have Lconfidence : w.heap.size + 1 + 1 < w19.heap.size := Blconfidence.lt
      have Lshare_0 : w.heap.size < w19.heap.size := by omega
      have Lconfidence_0 : w.heap.size + 1 < w19.heap.size := by omega
      go_wp2_with fail
      clear cshare_0 cshare_1 cconfidence_0 cconfidence_1 Lshare Lconfidence Lshare_0 Lconfidence_0
      refine Calls.abs ?_
      intro w20 hW
      have hG : Gr [] w19 w20 := by rw [hW]; exact (Gr.refl _ _).alloc
      have hbw : Below w.heap.size w19 w20 := hG.below0 hs.size
      have hk : KeepD w19 w20 := hG.keep True.intro
      have sz_w20 : w.heap.size ≤ w19.heap.size := hs.size
      have np_w20 : w.heap.size < w19.heap.size := Blp.lt
      have nshare_w20 : w.heap.size + 1 < w19.heap.size := Blshare.lt
      have nconfidence_w20 : w.heap.size + 1 + 1 < w19.heap.size := Blconfidence.lt
      have nls_w20 : w2.heap.size < w19.heap.size := Blls.lt
      have nx_w20 : w6.heap.size < w19.heap.size := Blx.lt
      have ny_w20 : w9.heap.size < w19.heap.size := Bly.lt
      have Blls6 : Bx w20 (w19.heap.size) 23 #[.int .i64 n2, .int .i64 d2, .int .i64 n3, .int .i64 d3] := by rw [hW]; exact (Bx.new0 _ _ _)
      replace hs := hs.trans hbw
      replace Blp := hG.bx Blp notMem0
      replace Blshare := hG.bx Blshare notMem0
      replace Blconfidence := hG.bx Blconfidence notMem0
      replace Blls := hG.bx Blls notMem0
      replace Blx := hG.bx Blx notMem0
      replace Bly := hG.bx Bly notMem0
      replace h5 := h5.keep hk
      replace h6 := h6.keep hk
      replace h7 := h7.keep hk
      replace h8 := h8.keep hk
      replace h9 := h9.keep hk
      replace h10 := h10.keep hk
      replace h11 := h11.keep hk
      replace h12 := h12.keep hk
      clear hW hG hk hbw
      have hz_w20 : w19.heap.size < w20.heap.size := Blls6.lt
      with_reducible refine (l8_small4 _ [(n2, d2), (n3, d3)] _ (rowsFt2 Blls6)).mono ?_
      rintro e w21 ⟨rfl, hb⟩
      replace hs := bStep hs hb
      replace Blp := Blp.mono hb
      replace Blshare := Blshare.mono hb
      replace Blconfidence := Blconfidence.mono hb
      replace Blls := Blls.mono hb
      replace Blx := Blx.mono hb
      replace Bly := Bly.mono hb
      replace Blls6 := Blls6.mono hb
      replace h5 := h5.mono hb
      replace h6 := h6.mono hb
      replace h7 := h7.mono hb
      replace h8 := h8.mono hb
      replace h9 := h9.mono hb
      replace h10 := h10.mono hb
      replace h11 := h11.mono hb
      replace h12 := h12.mono hb
      clear hb
      obtain ⟨b16, Hb16⟩ : ∃ b : Bool, b = [(n2, d2), (n3, d3)].all smF4 := ⟨_, rfl⟩
      rw [← Hb16]
      replace Hb16 := Lib.hid Hb16
      by_cases q17 : [(n2, d2), (n3, d3)].all smF4 = true
      · obtain rfl : b16 = true := by rw [Hb16.out]; exact q17
        have q17H := Lib.hid q17
        clear q17
        go_upto_region 11 with fail
        refine U_region (S := fun w' => w'.cell? ⟨w.heap.size + 1, 0, none⟩ = some (.int .i64 n2) ∧ w'.cell? ⟨w.heap.size + 1, 1, none⟩ = some (.int .i64 d2) ∧ w'.cell? ⟨w.heap.size + 1 + 1, 0, none⟩ = some (.int .i64 n3) ∧ w'.cell? ⟨w.heap.size + 1 + 1, 1, none⟩ = some (.int .i64 d3)) (by kernel_rfl) 11 ?_
        refine AnyU.abs ?_
        intro w22 hW
        have hb : Below w21.heap.size w21 w22 := by rw [hW]; exact bDrew _
        replace hs := bStep hs hb
        replace Blp := Blp.mono hb
        replace Blshare := Blshare.mono hb
        replace Blconfidence := Blconfidence.mono hb
        replace Blls := Blls.mono hb
        replace Blx := Blx.mono hb
        replace Bly := Bly.mono hb
        replace Blls6 := Blls6.mono hb
        replace h5 := h5.mono hb
        replace h6 := h6.mono hb
        replace h7 := h7.mono hb
        replace h8 := h8.mono hb
        replace h9 := h9.mono hb
        replace h10 := h10.mono hb
        replace h11 := h11.mono hb
        replace h12 := h12.mono hb
        clear hb hW
        have cshare_0 : w22.cell? ⟨w.heap.size + 1, 0, none⟩ = some (.int .i64 n2) := Blshare.at 0 rfl
        have cshare_1 : w22.cell? ⟨w.heap.size + 1, 1, none⟩ = some (.int .i64 d2) := Blshare.at 1 rfl
        have cconfidence_0 : w22.cell? ⟨w.heap.size + 1 + 1, 0, none⟩ = some (.int .i64 n3) := Blconfidence.at 0 rfl
        have cconfidence_1 : w22.cell? ⟨w.heap.size + 1 + 1, 1, none⟩ = some (.int .i64 d3) := Blconfidence.at 1 rfl
        have hH := (show w22.cell? ⟨w.heap.size + 1, 0, none⟩ = some (.int .i64 n2) ∧ w22.cell? ⟨w.heap.size + 1, 1, none⟩ = some (.int .i64 d2) ∧ w22.cell? ⟨w.heap.size + 1 + 1, 0, none⟩ = some (.int .i64 n3) ∧ w22.cell? ⟨w.heap.size + 1 + 1, 1, none⟩ = some (.int .i64 d3) from ⟨cshare_0, cshare_1, cconfidence_0, cconfidence_1⟩)
        refine U_takeN (i := 0) (d := 111) (v := ?_) rfl rfl rfl (by kernel_rfl) (by kernel_rfl) (by kernel_rfl) (fun _ _ _ h => h) (Or.inl ⟨by rfl, ?_⟩) hH ?_
        rotate_left
        · intro w hSw
          try dsimp only at hSw
          go_simp
          try with_reducible rfl
        simp only [LY]
        refine U_takeN (i := 1) (d := 112) (v := ?_) rfl rfl rfl (by kernel_rfl) (by kernel_rfl) (by kernel_rfl) (fun _ _ _ h => h) (Or.inl ⟨by rfl, ?_⟩) hH ?_
        rotate_left
        · intro w hSw
          try dsimp only at hSw
          go_simp
          try with_reducible rfl
        simp only [LY]
        refine U_takeN (i := 3) (d := 114) (v := ?_) rfl rfl rfl (by kernel_rfl) (by kernel_rfl) (by kernel_rfl) (fun _ _ _ h => h) (Or.inl ⟨by rfl, ?_⟩) hH ?_
        rotate_left
        · intro w hSw
          try dsimp only at hSw
          go_simp
          try with_reducible rfl
        simp only [LY]
        clear hH
        refine U_one (i := 2) (by kernel_rfl) rfl (fun K hK => ?_)
        go_simp
        (with_reducible refine (l1_Of_ _ O2.out HU.out).mono ?_)
        rintro e w23 ⟨_, rfl, h18, hb⟩
        obtain ⟨sh18, ah18, nh18, ch18, Ah18, Nh18, Ch18, rfl⟩ := h18.shape
        replace hs := bStep hs hb
        replace Blp := Blp.mono hb
        replace Blshare := Blshare.mono hb
        replace Blconfidence := Blconfidence.mono hb
        replace Blls := Blls.mono hb
        replace Blx := Blx.mono hb
        replace Bly := Bly.mono hb
        replace Blls6 := Blls6.mono hb
        replace h5 := h5.mono hb
        replace h6 := h6.mono hb
        replace h7 := h7.mono hb
        replace h8 := h8.mono hb
        replace h9 := h9.mono hb
        replace h10 := h10.mono hb
        replace h11 := h11.mono hb
        replace h12 := h12.mono hb
        replace cshare_0 := cellK cshare_0 hb
        replace cshare_1 := cellK cshare_1 hb
        replace cconfidence_0 := cellK cconfidence_0 hb
        replace cconfidence_1 := cellK cconfidence_1 hb
        clear hb
        try go_wp2_with fail
        refine hK.out _ _ ⟨cshare_0, cshare_1, cconfidence_0, cconfidence_1⟩ (fun hH => ?_)
        clear hK K
        try simp only [LY]
        clear hH
        refine U_one (i := 4) (by kernel_rfl) rfl (fun K hK => ?_)
        go_simp
        (with_reducible refine (l1_Of_ _ O3.out HC.out).mono ?_)
        rintro e w24 ⟨_, rfl, h19, hb⟩
        obtain ⟨sh19, ah19, nh19, ch19, Ah19, Nh19, Ch19, rfl⟩ := h19.shape
        replace hs := bStep hs hb
        replace Blp := Blp.mono hb
        replace Blshare := Blshare.mono hb
        replace Blconfidence := Blconfidence.mono hb
        replace Blls := Blls.mono hb
        replace Blx := Blx.mono hb
        replace Bly := Bly.mono hb
        replace Blls6 := Blls6.mono hb
        replace h5 := h5.mono hb
        replace h6 := h6.mono hb
        replace h7 := h7.mono hb
        replace h8 := h8.mono hb
        replace h9 := h9.mono hb
        replace h10 := h10.mono hb
        replace h11 := h11.mono hb
        replace h12 := h12.mono hb
        replace h18 := h18.mono hb
        replace cshare_0 := cellK cshare_0 hb
        replace cshare_1 := cellK cshare_1 hb
        replace cconfidence_0 := cellK cconfidence_0 hb
        replace cconfidence_1 := cellK cconfidence_1 hb
        clear hb
        try go_wp2_with fail
        refine hK.out _ _ ⟨cshare_0, cshare_1, cconfidence_0, cconfidence_1⟩ (fun hH => ?_)
        clear hK K
        try simp only [LY]
        clear hH
        refine U_one (i := 5) (by kernel_rfl) rfl (fun K hK => ?_)
        go_simp
        (with_reducible refine (al_Coupons_all _ h18 su h19 sc HD.out HG.out).mono ?_)
        rintro e w25 ⟨rfl, hb⟩
        replace hs := bStep hs hb
        replace Blp := Blp.mono hb
        replace Blshare := Blshare.mono hb
        replace Blconfidence := Blconfidence.mono hb
        replace Blls := Blls.mono hb
        replace Blx := Blx.mono hb
        replace Bly := Bly.mono hb
        replace Blls6 := Blls6.mono hb
        replace h5 := h5.mono hb
        replace h6 := h6.mono hb
        replace h7 := h7.mono hb
        replace h8 := h8.mono hb
        replace h9 := h9.mono hb
        replace h10 := h10.mono hb
        replace h11 := h11.mono hb
        replace h12 := h12.mono hb
        replace h18 := h18.mono hb
        replace h19 := h19.mono hb
        replace cshare_0 := cellK cshare_0 hb
        replace cshare_1 := cellK cshare_1 hb
        replace cconfidence_0 := cellK cconfidence_0 hb
        replace cconfidence_1 := cellK cconfidence_1 hb
        clear hb
        try go_wp2_with fail
        refine hK.out _ _ ⟨cshare_0, cshare_1, cconfidence_0, cconfidence_1⟩ (fun hH => ?_)
        clear hK K
        try simp only [LY]
        refine U_takeN (i := 6) (d := 110) (v := ?_) rfl rfl rfl (by kernel_rfl) (by kernel_rfl) (by kernel_rfl) (fun _ _ _ h => h) (Or.inl ⟨by rfl, ?_⟩) hH ?_
        rotate_left
        · intro w hSw
          try dsimp only at hSw
          go_simp
          try with_reducible rfl
        simp only [LY]
        refine U_takeN (i := 7) (d := 117) (v := ?_) rfl rfl rfl (by kernel_rfl) (by kernel_rfl) (by kernel_rfl) (fun _ _ _ h => h) (Or.inl ⟨by rfl, ?_⟩) hH ?_
        rotate_left
        · intro w hSw
          try dsimp only at hSw
          go_simp
          try with_reducible rfl
        simp only [LY]
        refine U_takeN (i := 8) (d := 118) (v := ?_) rfl rfl rfl (by kernel_rfl) (by kernel_rfl) (by kernel_rfl) (fun _ _ _ h => h) (Or.inl ⟨by rfl, ?_⟩) hH ?_
        rotate_left
        · intro w hSw
          try dsimp only at hSw
          go_simp
          try with_reducible rfl
        simp only [LY]
        refine U_takeN (i := 9) (d := 21) (v := ?_) rfl rfl rfl (by kernel_rfl) (by kernel_rfl) (by kernel_rfl) (fun _ _ _ h => h) (Or.inl ⟨by rfl, ?_⟩) hH ?_
        rotate_left
        · intro w hSw
          try dsimp only at hSw
          go_simp
          try with_reducible rfl
        simp only [LY]
        refine U_takeN (i := 10) (d := 22) (v := ?_) rfl rfl rfl (by kernel_rfl) (by kernel_rfl) (by kernel_rfl) (fun _ _ _ h => h) (Or.inl ⟨by rfl, ?_⟩) hH ?_
        rotate_left
        · intro w hSw
          try dsimp only at hSw
          go_simp
          try with_reducible rfl
        simp only [LY]
        clear hH
        refine U_endN (by kernel_rfl) ?_
        clear cshare_0 cshare_1 cconfidence_0 cconfidence_1
        go_upto_region 12 with fail
        refine U_region (S := fun w' => w'.cell? ⟨w.heap.size + 1, 0, none⟩ = some (.int .i64 n2) ∧ w'.cell? ⟨w.heap.size + 1, 1, none⟩ = some (.int .i64 d2) ∧ w'.cell? ⟨w.heap.size + 1 + 1, 0, none⟩ = some (.int .i64 n3) ∧ w'.cell? ⟨w.heap.size + 1 + 1, 1, none⟩ = some (.int .i64 d3)) (by kernel_rfl) 11 ?_
        refine AnyU.abs ?_
        intro w26 hW
        have hb : Below w25.heap.size w25 w26 := by rw [hW]; exact bDrew _
        replace hs := bStep hs hb
        replace Blp := Blp.mono hb
        replace Blshare := Blshare.mono hb
        replace Blconfidence := Blconfidence.mono hb
        replace Blls := Blls.mono hb
        replace Blx := Blx.mono hb
        replace Bly := Bly.mono hb
        replace Blls6 := Blls6.mono hb
        replace h5 := h5.mono hb
        replace h6 := h6.mono hb
        replace h7 := h7.mono hb
        replace h8 := h8.mono hb
        replace h9 := h9.mono hb
        replace h10 := h10.mono hb
        replace h11 := h11.mono hb
        replace h12 := h12.mono hb
        replace h18 := h18.mono hb
        replace h19 := h19.mono hb
        clear hb hW
        have cshare_0 : w26.cell? ⟨w.heap.size + 1, 0, none⟩ = some (.int .i64 n2) := Blshare.at 0 rfl
        have cshare_1 : w26.cell? ⟨w.heap.size + 1, 1, none⟩ = some (.int .i64 d2) := Blshare.at 1 rfl
        have cconfidence_0 : w26.cell? ⟨w.heap.size + 1 + 1, 0, none⟩ = some (.int .i64 n3) := Blconfidence.at 0 rfl
        have cconfidence_1 : w26.cell? ⟨w.heap.size + 1 + 1, 1, none⟩ = some (.int .i64 d3) := Blconfidence.at 1 rfl
        have hH := (show w26.cell? ⟨w.heap.size + 1, 0, none⟩ = some (.int .i64 n2) ∧ w26.cell? ⟨w.heap.size + 1, 1, none⟩ = some (.int .i64 d2) ∧ w26.cell? ⟨w.heap.size + 1 + 1, 0, none⟩ = some (.int .i64 n3) ∧ w26.cell? ⟨w.heap.size + 1 + 1, 1, none⟩ = some (.int .i64 d3) from ⟨cshare_0, cshare_1, cconfidence_0, cconfidence_1⟩)
        refine U_takeN (i := 0) (d := 120) (v := ?_) rfl rfl rfl (by kernel_rfl) (by kernel_rfl) (by kernel_rfl) (fun _ _ _ h => h) (Or.inl ⟨by rfl, ?_⟩) hH ?_
        rotate_left
        · intro w hSw
          try dsimp only at hSw
          go_simp
          try with_reducible rfl
        simp only [LY]
        refine U_takeN (i := 1) (d := 121) (v := ?_) rfl rfl rfl (by kernel_rfl) (by kernel_rfl) (by kernel_rfl) (fun _ _ _ h => h) (Or.inl ⟨by rfl, ?_⟩) hH ?_
        rotate_left
        · intro w hSw
          try dsimp only at hSw
          go_simp
          try with_reducible rfl
        simp only [LY]
        refine U_takeN (i := 3) (d := 123) (v := ?_) rfl rfl rfl (by kernel_rfl) (by kernel_rfl) (by kernel_rfl) (fun _ _ _ h => h) (Or.inl ⟨by rfl, ?_⟩) hH ?_
        rotate_left
        · intro w hSw
          try dsimp only at hSw
          go_simp
          try with_reducible rfl
        simp only [LY]
        clear hH
        refine U_one (i := 2) (by kernel_rfl) rfl (fun K hK => ?_)
        go_simp
        (with_reducible refine (r1_Of_ _ O2.out HU.out).mono ?_)
        rintro e w27 ⟨_, rfl, h20, hb⟩
        obtain ⟨sh20, ah20, nh20, ch20, Ah20, Nh20, Ch20, rfl⟩ := h20.shape
        replace hs := bStep hs hb
        replace Blp := Blp.mono hb
        replace Blshare := Blshare.mono hb
        replace Blconfidence := Blconfidence.mono hb
        replace Blls := Blls.mono hb
        replace Blx := Blx.mono hb
        replace Bly := Bly.mono hb
        replace Blls6 := Blls6.mono hb
        replace h5 := h5.mono hb
        replace h6 := h6.mono hb
        replace h7 := h7.mono hb
        replace h8 := h8.mono hb
        replace h9 := h9.mono hb
        replace h10 := h10.mono hb
        replace h11 := h11.mono hb
        replace h12 := h12.mono hb
        replace h18 := h18.mono hb
        replace h19 := h19.mono hb
        replace cshare_0 := cellK cshare_0 hb
        replace cshare_1 := cellK cshare_1 hb
        replace cconfidence_0 := cellK cconfidence_0 hb
        replace cconfidence_1 := cellK cconfidence_1 hb
        clear hb
        try go_wp2_with fail
        refine hK.out _ _ ⟨cshare_0, cshare_1, cconfidence_0, cconfidence_1⟩ (fun hH => ?_)
        clear hK K
        try simp only [LY]
        clear hH
        refine U_one (i := 4) (by kernel_rfl) rfl (fun K hK => ?_)
        go_simp
        (with_reducible refine (r1_Of_ _ O3.out HC.out).mono ?_)
        rintro e w28 ⟨_, rfl, h21, hb⟩
        obtain ⟨sh21, ah21, nh21, ch21, Ah21, Nh21, Ch21, rfl⟩ := h21.shape
        replace hs := bStep hs hb
        replace Blp := Blp.mono hb
        replace Blshare := Blshare.mono hb
        replace Blconfidence := Blconfidence.mono hb
        replace Blls := Blls.mono hb
        replace Blx := Blx.mono hb
        replace Bly := Bly.mono hb
        replace Blls6 := Blls6.mono hb
        replace h5 := h5.mono hb
        replace h6 := h6.mono hb
        replace h7 := h7.mono hb
        replace h8 := h8.mono hb
        replace h9 := h9.mono hb
        replace h10 := h10.mono hb
        replace h11 := h11.mono hb
        replace h12 := h12.mono hb
        replace h18 := h18.mono hb
        replace h19 := h19.mono hb
        replace h20 := h20.mono hb
        replace cshare_0 := cellK cshare_0 hb
        replace cshare_1 := cellK cshare_1 hb
        replace cconfidence_0 := cellK cconfidence_0 hb
        replace cconfidence_1 := cellK cconfidence_1 hb
        clear hb
        try go_wp2_with fail
        refine hK.out _ _ ⟨cshare_0, cshare_1, cconfidence_0, cconfidence_1⟩ (fun hH => ?_)
        clear hK K
        try simp only [LY]
        clear hH
        refine U_one (i := 5) (by kernel_rfl) rfl (fun K hK => ?_)
        go_simp
        (with_reducible refine (r8_Coupons_all _ h20 su h21 sc HD.out HG.out).mono ?_)
        rintro e w29 ⟨rfl, hb⟩
        replace hs := bStep hs hb
        replace Blp := Blp.mono hb
        replace Blshare := Blshare.mono hb
        replace Blconfidence := Blconfidence.mono hb
        replace Blls := Blls.mono hb
        replace Blx := Blx.mono hb
        replace Bly := Bly.mono hb
        replace Blls6 := Blls6.mono hb
        replace h5 := h5.mono hb
        replace h6 := h6.mono hb
        replace h7 := h7.mono hb
        replace h8 := h8.mono hb
        replace h9 := h9.mono hb
        replace h10 := h10.mono hb
        replace h11 := h11.mono hb
        replace h12 := h12.mono hb
        replace h18 := h18.mono hb
        replace h19 := h19.mono hb
        replace h20 := h20.mono hb
        replace h21 := h21.mono hb
        replace cshare_0 := cellK cshare_0 hb
        replace cshare_1 := cellK cshare_1 hb
        replace cconfidence_0 := cellK cconfidence_0 hb
        replace cconfidence_1 := cellK cconfidence_1 hb
        clear hb
        try go_wp2_with fail
        refine hK.out _ _ ⟨cshare_0, cshare_1, cconfidence_0, cconfidence_1⟩ (fun hH => ?_)
        clear hK K
        try simp only [LY]
        refine U_takeN (i := 6) (d := 119) (v := ?_) rfl rfl rfl (by kernel_rfl) (by kernel_rfl) (by kernel_rfl) (fun _ _ _ h => h) (Or.inl ⟨by rfl, ?_⟩) hH ?_
        rotate_left
        · intro w hSw
          try dsimp only at hSw
          go_simp
          try with_reducible rfl
        simp only [LY]
        refine U_takeN (i := 7) (d := 126) (v := ?_) rfl rfl rfl (by kernel_rfl) (by kernel_rfl) (by kernel_rfl) (fun _ _ _ h => h) (Or.inl ⟨by rfl, ?_⟩) hH ?_
        rotate_left
        · intro w hSw
          try dsimp only at hSw
          go_simp
          try with_reducible rfl
        simp only [LY]
        refine U_takeN (i := 8) (d := 127) (v := ?_) rfl rfl rfl (by kernel_rfl) (by kernel_rfl) (by kernel_rfl) (fun _ _ _ h => h) (Or.inl ⟨by rfl, ?_⟩) hH ?_
        rotate_left
        · intro w hSw
          try dsimp only at hSw
          go_simp
          try with_reducible rfl
        simp only [LY]
        refine U_takeN (i := 9) (d := 23) (v := ?_) rfl rfl rfl (by kernel_rfl) (by kernel_rfl) (by kernel_rfl) (fun _ _ _ h => h) (Or.inl ⟨by rfl, ?_⟩) hH ?_
        rotate_left
        · intro w hSw
          try dsimp only at hSw
          go_simp
          try with_reducible rfl
        simp only [LY]
        refine U_takeN (i := 10) (d := 24) (v := ?_) rfl rfl rfl (by kernel_rfl) (by kernel_rfl) (by kernel_rfl) (fun _ _ _ h => h) (Or.inl ⟨by rfl, ?_⟩) hH ?_
        rotate_left
        · intro w hSw
          try dsimp only at hSw
          go_simp
          try with_reducible rfl
        simp only [LY]
        clear hH
        refine U_endN (by kernel_rfl) ?_
        clear cshare_0 cshare_1 cconfidence_0 cconfidence_1
        have q22b : (d == d) = true := beq_self_eq_true _
        have q22n : (d != d) = false := bne_self_eq_false _
        have q23b : (g == g) = true := beq_self_eq_true _
        have q23n : (g != g) = false := bne_self_eq_false _
        go_wp2
        go_ret
        exact ⟨rfl, hs⟩
      · obtain rfl : b16 = false := by rw [Hb16.out]; simpa using q17
        have q17H := Lib.hid q17
        clear q17
        go_wp2
        go_ret
        exact ⟨rfl, hs⟩

theorem l8_AllowTails (n k m n1 d1 n2 d2 n3 d3 : Int) (w : World) (hk : k ≤ 9223372036854775807) (o1 : DOk (n1, d1)) (o2 : DOk (n2, d2)) (o3 : DOk (n3, d3)) :
    Calls Tryz.prog 3 #[.int .i64 n, .int .i64 k, .int .i64 m, .agg #[.int .i64 n1, .int .i64 d1], .agg #[.int .i64 n2, .int .i64 d2], .agg #[.int .i64 n3, .int .i64 d3]] w (RetV w (.bool true)) := by
  by_cases hS : [(n1, d1), (n2, d2), (n3, d3)].all smF8 = true
  · by_cases hn : 20 < n ∧ n ≤ 64
    · exact l8_Tails_bad2 n k m n1 d1 n2 d2 n3 d3 w hS hn.1 hn.2
    · by_cases hm : 4 < m ∧ m ≤ 64
      · exact l8_Tails_bad3 n k m n1 d1 n2 d2 n3 d3 w hS (by omega) hm.1 hm.2
      · have hh : smF8 (n1, d1) = true ∧ smF8 (n2, d2) = true ∧ smF8 (n3, d3) = true := by simpa [List.all_cons, and_assoc] using hS
        exact l8_Tails_ok n k m n1 d1 n2 d2 n3 d3 w hS (by omega) (by omega) hk o1 o2 o3 _ _ _ rfl rfl rfl (smF8_sz hh.1) (smF8_sz hh.2.1) (smF8_sz hh.2.2) _ _ _ _ _ _ rfl rfl (tlV_sz (smF8_sz hh.1)) rfl rfl rfl rfl
  · exact l8_Tails_bad1 n k m n1 d1 n2 d2 n3 d3 w hS
end Go.Proofs.YtmnipggjjcmjkaaGreat
