/-
  Law 08: AllowRises.
-/
import Derived.Test.YtmnipggjjcmjkaaGreatPkAlR3Q
import Derived.Test.YtmnipggjjcmjkaaGreatAlAwQ
set_option linter.unusedSimpArgs false
set_option linter.unusedVariables false
namespace Go.Proofs.YtmnipggjjcmjkaaGreat
open Go.RowKit Dg
attribute [local go_sem ↓] Go.wp_at_zero Go.wp_at_succ

/-- What Reliable tells. -/
def relE (L : List Cls) (p u : Rat) : Int := if ¬ clE L = 0 then clE L else if ¬ (0 ≤ p ∧ p ≤ 1) ∨ ¬ (0 ≤ u ∧ u ≤ 1) then 1 else if relF (prvC L u p) L.length = L.length then 5 else 0
def relV (L : List Cls) (p u : Rat) : Int := if ¬ clE L = 0 ∨ ¬ (0 ≤ p ∧ p ≤ 1) ∨ ¬ (0 ≤ u ∧ u ≤ 1) ∨ relF (prvC L u p) L.length = L.length then 0 else (relF (prvC L u p) L.length : Nat)
theorem relE_bad {L : List Cls} {p u : Rat} (h : ¬ clE L = 0) : relE L p u = clE L ∧ relV L p u = 0 := ⟨if_pos h, if_pos (.inl h)⟩
theorem relE_arg {L : List Cls} {p u : Rat} (h : clE L = 0) (hc : ¬ (0 ≤ p ∧ p ≤ 1) ∨ ¬ (0 ≤ u ∧ u ≤ 1)) : relE L p u = 1 ∧ relV L p u = 0 :=
  ⟨(if_neg (fun e => e h)).trans (if_pos hc), if_pos (.inr (hc.elim .inl (fun h => .inr (.inl h))))⟩
theorem relE_ok {L : List Cls} {p u : Rat} (h : clE L = 0) (hp : 0 ≤ p ∧ p ≤ 1) (hu : 0 ≤ u ∧ u ≤ 1) : relE L p u = (if relF (prvC L u p) L.length = L.length then 5 else 0) ∧ relV L p u = (if relF (prvC L u p) L.length = L.length then 0 else ((relF (prvC L u p) L.length : Nat) : Int)) := by
  refine ⟨(if_neg (fun e => e h)).trans (if_neg (fun e => e.elim (fun e => e hp) (fun e => e hu))), ?_⟩
  unfold relV
  by_cases hD : relF (prvC L u p) L.length = L.length
  · rw [if_pos hD, if_pos (.inr (.inr (.inr hD)))]
  · rw [if_neg hD, if_neg (fun e => ?_)]
    rcases e with e | e | e | e
    · exact e h
    · exact e hp
    · exact e hu
    · exact hD e
theorem al_Reliable_all {v vp vu : Value} {L : List Cls} {p u : Rat} (w : World) (hl : RowsI 2 ClC w v L) (hp : PV w vp p) (sp : SzQ 1 p) (hu : PV w vu u) (su : SzQ 1 u) {r1 r2 : Int} (h1 : relV L p u = r1) (h2 : relE L p u = r2) :
    Calls Tryz.prog 40 #[v, vp, vu] w (RetV w (.tuple #[.int .i64 r1, .int .i64 r2])) := by
  subst h1 h2
  by_cases hW : clE L = 0
  · by_cases hp1 : 0 ≤ p ∧ p ≤ 1
    · by_cases hu1 : 0 ≤ u ∧ u ≤ 1
      · obtain ⟨a, b, ok⟩ := clE_zero hW
        obtain ⟨e1, e2⟩ := relE_ok (p := p) (u := u) hW hp1 hu1
        rw [e1, e2]
        exact al_Reliable w hl hp sp hp1 hu su hu1 a b ok rfl rfl rfl
      · obtain ⟨e1, e2⟩ := relE_arg (p := p) (u := u) hW (.inr hu1)
        rw [e1, e2]
        exact al_Reliable_arg2 w hl hW hp sp hu su rfl hp1 hu1
    · obtain ⟨e1, e2⟩ := relE_arg (p := p) (u := u) hW (.inl hp1)
      rw [e1, e2]
      exact al_Reliable_arg1 w hl hW hp sp hu su rfl hp1
  · obtain ⟨e1, e2⟩ := relE_bad (p := p) (u := u) hW
    rw [e1, e2]
    exact al_Reliable_bad w hl rfl hp sp hu su hW
theorem r8_Reliable_all {v vp vu : Value} {L : List Cls} {p u : Rat} (w : World) (hl : RowsI 2 ClC w v L) (hp : RV w vp p) (sp : SzQ 1 p) (hu : RV w vu u) (su : SzQ 1 u) {r1 r2 : Int} (h1 : relV L p u = r1) (h2 : relE L p u = r2) :
    Calls Tryz.prog 41 #[v, vp, vu] w (RetV w (.tuple #[.int .i64 r1, .int .i64 r2])) := by
  subst h1 h2
  by_cases hW : clE L = 0
  · by_cases hp1 : 0 ≤ p ∧ p ≤ 1
    · by_cases hu1 : 0 ≤ u ∧ u ≤ 1
      · obtain ⟨a, b, ok⟩ := clE_zero hW
        obtain ⟨e1, e2⟩ := relE_ok (p := p) (u := u) hW hp1 hu1
        rw [e1, e2]
        exact r8_Reliable w hl hp sp hp1 hu su hu1 a b ok rfl rfl rfl hW
      · obtain ⟨e1, e2⟩ := relE_arg (p := p) (u := u) hW (.inr hu1)
        rw [e1, e2]
        exact r8_Reliable_arg2 w hl hW hp sp hu su rfl hp1 hu1
    · obtain ⟨e1, e2⟩ := relE_arg (p := p) (u := u) hW (.inl hp1)
      rw [e1, e2]
      exact r8_Reliable_arg1 w hl hW hp sp hu su rfl hp1
  · obtain ⟨e1, e2⟩ := relE_bad (p := p) (u := u) hW
    rw [e1, e2]
    exact r8_Reliable_bad w hl rfl hp sp hu su hW
theorem l1_OfE {n d : Int} {q : Rat} (w : World) (o : DOk (n, d)) (hq : fracQ n d = q) : Calls Tryz.prog 13 #[.agg #[.int .i64 n, .int .i64 d]] w (RetP w q) := l1_Of_ w o hq
theorem r1_OfE {n d : Int} {q : Rat} (w : World) (o : DOk (n, d)) (hq : fracQ n d = q) : Calls Tryz.prog 15 #[.agg #[.int .i64 n, .int .i64 d]] w (RetQ w q) := r1_Of_ w o hq

set_option maxRecDepth 100000 in
set_option maxHeartbeats 16000000 in
theorem l8_Rises_bad1 (v vc : Value) (L : List Cls) (c : List (Int × Int)) (n1 d1 n2 d2 : Int) (w : World) (hl : RowsI 2 ClC w v L) (hc : RowsI 2 FC w vc c) (h1 : 20 < L.length) :
    Calls Tryz.prog 7 #[v, vc, .agg #[.int .i64 n1, .int .i64 d1], .agg #[.int .i64 n2, .int .i64 d2]] w (RetV w (.bool true)) := by
  obtain ⟨ao, cap, rfl, hc1, hc2, hc3⟩ := hl.slice
  obtain ⟨ai, ci, rfl, hd1, hd2, hd3⟩ := hc.slice
  have hs := Below.refl w.heap.size w
  have HLI := Lib.hid hl
  have HC1 := Lib.hid hc
  clear hl hc 
  go_enter Tryz.func7, Tryz.ntmps7
  go_wp2_with fail
  refine Calls.abs ?_
  intro w1 hW
  have hG : Gr [] w w1 := by rw [hW]; exact (Gr.refl _ _).alloc.alloc
  have hbw : Below w.heap.size w w1 := hG.below0 hs.size
  have hk : KeepD w w1 := hG.keep True.intro
  have sz_w1 : w.heap.size ≤ w.heap.size := hs.size
  have Blchance : Bx w1 (w.heap.size) 23 #[.int .i64 n1, .int .i64 d1] := by rw [hW]; exact ((Bx.new0 _ _ _).alloc _)
  have Blconfidence : Bx w1 (w.heap.size + 1) 23 #[.int .i64 n2, .int .i64 d2] := by rw [hW]; exact (Bx.new0 _ _ _)
  replace hs := hs.trans hbw
  clear hW hG hk hbw
  have hz_w1 : w.heap.size + 1 < w1.heap.size := Blconfidence.lt
  with_reducible refine (l8_awake _).mono ?_
  rintro e w2 ⟨rfl, hb⟩
  replace hs := bStep hs hb
  replace Blchance := Blchance.mono hb
  replace Blconfidence := Blconfidence.mono hb
  clear hb
  have q1 : 20 < L.length := (by omega)
  have q1d : ((20 : Int) < (L.length : Int)) = True := eq_true (by omega)
  go_wp2_with fail
  with_reducible refine (l8_awake _).mono ?_
  rintro e w3 ⟨rfl, hb⟩
  replace hs := bStep hs hb
  replace Blchance := Blchance.mono hb
  replace Blconfidence := Blconfidence.mono hb
  clear hb
  go_wp2
  go_ret
  exact ⟨rfl, hs⟩

set_option maxRecDepth 100000 in
set_option maxHeartbeats 16000000 in
theorem l8_Rises_bad2 (v vc : Value) (L : List Cls) (c : List (Int × Int)) (n1 d1 n2 d2 : Int) (w : World) (hl : RowsI 2 ClC w v L) (hc : RowsI 2 FC w vc c) (h1 : L.length ≤ 20) (h2 : 30 < c.length) :
    Calls Tryz.prog 7 #[v, vc, .agg #[.int .i64 n1, .int .i64 d1], .agg #[.int .i64 n2, .int .i64 d2]] w (RetV w (.bool true)) := by
  obtain ⟨ao, cap, rfl, hc1, hc2, hc3⟩ := hl.slice
  obtain ⟨ai, ci, rfl, hd1, hd2, hd3⟩ := hc.slice
  have hs := Below.refl w.heap.size w
  have HLI := Lib.hid hl
  have HC1 := Lib.hid hc
  clear hl hc 
  go_enter Tryz.func7, Tryz.ntmps7
  go_wp2_with fail
  refine Calls.abs ?_
  intro w1 hW
  have hG : Gr [] w w1 := by rw [hW]; exact (Gr.refl _ _).alloc.alloc
  have hbw : Below w.heap.size w w1 := hG.below0 hs.size
  have hk : KeepD w w1 := hG.keep True.intro
  have sz_w1 : w.heap.size ≤ w.heap.size := hs.size
  have Blchance : Bx w1 (w.heap.size) 23 #[.int .i64 n1, .int .i64 d1] := by rw [hW]; exact ((Bx.new0 _ _ _).alloc _)
  have Blconfidence : Bx w1 (w.heap.size + 1) 23 #[.int .i64 n2, .int .i64 d2] := by rw [hW]; exact (Bx.new0 _ _ _)
  replace hs := hs.trans hbw
  clear hW hG hk hbw
  have hz_w1 : w.heap.size + 1 < w1.heap.size := Blconfidence.lt
  with_reducible refine (l8_awake _).mono ?_
  rintro e w2 ⟨rfl, hb⟩
  replace hs := bStep hs hb
  replace Blchance := Blchance.mono hb
  replace Blconfidence := Blconfidence.mono hb
  clear hb
  have q1 : ¬ (20 < L.length) := (by omega)
  have q1d : ((20 : Int) < (L.length : Int)) = False := eq_false (by omega)
  have q2 : 30 < c.length := (by omega)
  have q2d : ((30 : Int) < (c.length : Int)) = True := eq_true (by omega)
  go_wp2_with fail
  with_reducible refine (l8_awake _).mono ?_
  rintro e w3 ⟨rfl, hb⟩
  replace hs := bStep hs hb
  replace Blchance := Blchance.mono hb
  replace Blconfidence := Blconfidence.mono hb
  clear hb
  go_wp2
  go_ret
  exact ⟨rfl, hs⟩

set_option maxRecDepth 100000 in
set_option maxHeartbeats 16000000 in
theorem l8_Rises_bad3 (v vc : Value) (L : List Cls) (c : List (Int × Int)) (n1 d1 n2 d2 : Int) (w : World) (hl : RowsI 2 ClC w v L) (hc : RowsI 2 FC w vc c) (h1 : L.length ≤ 20) (h2 : c.length ≤ 30) (hS : ¬ (c.all smF24 = true)) :
    Calls Tryz.prog 7 #[v, vc, .agg #[.int .i64 n1, .int .i64 d1], .agg #[.int .i64 n2, .int .i64 d2]] w (RetV w (.bool true)) := by
  obtain ⟨ao, cap, rfl, hc1, hc2, hc3⟩ := hl.slice
  obtain ⟨ai, ci, rfl, hd1, hd2, hd3⟩ := hc.slice
  have hs := Below.refl w.heap.size w
  have HLI := Lib.hid hl
  have HC1 := Lib.hid hc
  have HS := Lib.hid hS
  clear hl hc hS
  go_enter Tryz.func7, Tryz.ntmps7
  go_wp2_with fail
  refine Calls.abs ?_
  intro w1 hW
  have hG : Gr [] w w1 := by rw [hW]; exact (Gr.refl _ _).alloc.alloc
  have hbw : Below w.heap.size w w1 := hG.below0 hs.size
  have hk : KeepD w w1 := hG.keep True.intro
  have sz_w1 : w.heap.size ≤ w.heap.size := hs.size
  have Blchance : Bx w1 (w.heap.size) 23 #[.int .i64 n1, .int .i64 d1] := by rw [hW]; exact ((Bx.new0 _ _ _).alloc _)
  have Blconfidence : Bx w1 (w.heap.size + 1) 23 #[.int .i64 n2, .int .i64 d2] := by rw [hW]; exact (Bx.new0 _ _ _)
  replace hs := hs.trans hbw
  clear hW hG hk hbw
  have hz_w1 : w.heap.size + 1 < w1.heap.size := Blconfidence.lt
  with_reducible refine (l8_awake _).mono ?_
  rintro e w2 ⟨rfl, hb⟩
  replace hs := bStep hs hb
  replace Blchance := Blchance.mono hb
  replace Blconfidence := Blconfidence.mono hb
  clear hb
  have q1 : ¬ (20 < L.length) := (by omega)
  have q1d : ((20 : Int) < (L.length : Int)) = False := eq_false (by omega)
  have q2 : ¬ (30 < c.length) := (by omega)
  have q2d : ((30 : Int) < (c.length : Int)) = False := eq_false (by omega)
  go_wp2_with fail
  with_reducible refine (l8_small24 _ c _ (HC1.out.mono FC.kept hs)).mono ?_
  rintro e w3 ⟨rfl, hb⟩
  replace hs := bStep hs hb
  replace Blchance := Blchance.mono hb
  replace Blconfidence := Blconfidence.mono hb
  clear hb
  obtain ⟨b3, Hb3⟩ : ∃ b : Bool, b = c.all smF24 := ⟨_, rfl⟩
  rw [← Hb3]
  replace Hb3 := Lib.hid Hb3
  have q4 : ¬ (c.all smF24 = true) := HS.out
  obtain rfl : b3 = false := by rw [Hb3.out]; simpa using q4
  have q4H := Lib.hid q4
  clear q4
  go_wp2_with fail
  with_reducible refine (l8_awake _).mono ?_
  rintro e w4 ⟨rfl, hb⟩
  replace hs := bStep hs hb
  replace Blchance := Blchance.mono hb
  replace Blconfidence := Blconfidence.mono hb
  clear hb
  go_wp2
  go_ret
  exact ⟨rfl, hs⟩

set_option maxRecDepth 100000 in
set_option maxHeartbeats 16000000 in
theorem l8_Rises_bad4 (v vc : Value) (L : List Cls) (c : List (Int × Int)) (n1 d1 n2 d2 : Int) (w : World) (hl : RowsI 2 ClC w v L) (hc : RowsI 2 FC w vc c) (h1 : L.length ≤ 20) (h2 : c.length ≤ 30) (hS : c.all smF24 = true) (hT : ¬ ([(n1, d1), (n2, d2)].all smF8 = true)) :
    Calls Tryz.prog 7 #[v, vc, .agg #[.int .i64 n1, .int .i64 d1], .agg #[.int .i64 n2, .int .i64 d2]] w (RetV w (.bool true)) := by
  obtain ⟨ao, cap, rfl, hc1, hc2, hc3⟩ := hl.slice
  obtain ⟨ai, ci, rfl, hd1, hd2, hd3⟩ := hc.slice
  have hs := Below.refl w.heap.size w
  have HLI := Lib.hid hl
  have HC1 := Lib.hid hc
  have HS := Lib.hid hS
  have HT := Lib.hid hT
  clear hl hc hS hT
  go_enter Tryz.func7, Tryz.ntmps7
  go_wp2_with fail
  refine Calls.abs ?_
  intro w1 hW
  have hG : Gr [] w w1 := by rw [hW]; exact (Gr.refl _ _).alloc.alloc
  have hbw : Below w.heap.size w w1 := hG.below0 hs.size
  have hk : KeepD w w1 := hG.keep True.intro
  have sz_w1 : w.heap.size ≤ w.heap.size := hs.size
  have Blchance : Bx w1 (w.heap.size) 23 #[.int .i64 n1, .int .i64 d1] := by rw [hW]; exact ((Bx.new0 _ _ _).alloc _)
  have Blconfidence : Bx w1 (w.heap.size + 1) 23 #[.int .i64 n2, .int .i64 d2] := by rw [hW]; exact (Bx.new0 _ _ _)
  replace hs := hs.trans hbw
  clear hW hG hk hbw
  have hz_w1 : w.heap.size + 1 < w1.heap.size := Blconfidence.lt
  with_reducible refine (l8_awake _).mono ?_
  rintro e w2 ⟨rfl, hb⟩
  replace hs := bStep hs hb
  replace Blchance := Blchance.mono hb
  replace Blconfidence := Blconfidence.mono hb
  clear hb
  have q1 : ¬ (20 < L.length) := (by omega)
  have q1d : ((20 : Int) < (L.length : Int)) = False := eq_false (by omega)
  have q2 : ¬ (30 < c.length) := (by omega)
  have q2d : ((30 : Int) < (c.length : Int)) = False := eq_false (by omega)
  go_wp2_with fail
  with_reducible refine (l8_small24 _ c _ (HC1.out.mono FC.kept hs)).mono ?_
  rintro e w3 ⟨rfl, hb⟩
  replace hs := bStep hs hb
  replace Blchance := Blchance.mono hb
  replace Blconfidence := Blconfidence.mono hb
  clear hb
  obtain ⟨b3, Hb3⟩ : ∃ b : Bool, b = c.all smF24 := ⟨_, rfl⟩
  rw [← Hb3]
  replace Hb3 := Lib.hid Hb3
  have q4 : c.all smF24 = true := HS.out
  obtain rfl : b3 = true := by rw [Hb3.out]; exact q4
  have q4H := Lib.hid q4
  clear q4
  have cchance_0 : w3.cell? ⟨w.heap.size, 0, none⟩ = some (.int .i64 n1) := Blchance.at 0 rfl
  have cchance_1 : w3.cell? ⟨w.heap.size, 1, none⟩ = some (.int .i64 d1) := Blchance.at 1 rfl
  have Lchance : w.heap.size < w3.heap.size := Blchance.lt
  have cconfidence_0 : w3.cell? ⟨w.heap.size + 1, 0, none⟩ = some (.int .i64 n2) := Blconfidence.at 0 rfl
  have cconfidence_1 : w3.cell? ⟨w.heap.size + 1, 1, none⟩ = some (.int .i64 d2) := Blconfidence.at 1 rfl
  have Lconfidence : w.heap.size + 1 < w3.heap.size := Blconfidence.lt
  have Lconfidence_0 : w.heap.size < w3.heap.size := by omega
  go_wp2_with fail
  clear cchance_0 cchance_1 cconfidence_0 cconfidence_1 Lchance Lconfidence Lconfidence_0
  refine Calls.abs ?_
  intro w4 hW
  have hG : Gr [] w3 w4 := by rw [hW]; exact (Gr.refl _ _).alloc
  have hbw : Below w.heap.size w3 w4 := hG.below0 hs.size
  have hk : KeepD w3 w4 := hG.keep True.intro
  have sz_w4 : w.heap.size ≤ w3.heap.size := hs.size
  have nchance_w4 : w.heap.size < w3.heap.size := Blchance.lt
  have nconfidence_w4 : w.heap.size + 1 < w3.heap.size := Blconfidence.lt
  have Blls : Bx w4 (w3.heap.size) 23 #[.int .i64 n1, .int .i64 d1, .int .i64 n2, .int .i64 d2] := by rw [hW]; exact (Bx.new0 _ _ _)
  replace hs := hs.trans hbw
  replace Blchance := hG.bx Blchance notMem0
  replace Blconfidence := hG.bx Blconfidence notMem0
  clear hW hG hk hbw
  have hz_w4 : w3.heap.size < w4.heap.size := Blls.lt
  with_reducible refine (l8_small8 _ [(n1, d1), (n2, d2)] _ (rowsFt2 Blls)).mono ?_
  rintro e w5 ⟨rfl, hb⟩
  replace hs := bStep hs hb
  replace Blchance := Blchance.mono hb
  replace Blconfidence := Blconfidence.mono hb
  replace Blls := Blls.mono hb
  clear hb
  obtain ⟨b5, Hb5⟩ : ∃ b : Bool, b = [(n1, d1), (n2, d2)].all smF8 := ⟨_, rfl⟩
  rw [← Hb5]
  replace Hb5 := Lib.hid Hb5
  have q6 : ¬ ([(n1, d1), (n2, d2)].all smF8 = true) := HT.out
  obtain rfl : b5 = false := by rw [Hb5.out]; simpa using q6
  have q6H := Lib.hid q6
  clear q6
  go_wp2_with fail
  with_reducible refine (l8_awake _).mono ?_
  rintro e w6 ⟨rfl, hb⟩
  replace hs := bStep hs hb
  replace Blchance := Blchance.mono hb
  replace Blconfidence := Blconfidence.mono hb
  replace Blls := Blls.mono hb
  clear hb
  go_wp2
  go_ret
  exact ⟨rfl, hs⟩

set_option maxRecDepth 100000 in
set_option maxHeartbeats 16000000 in
theorem l8_Rises_err (v vc : Value) (L : List Cls) (c : List (Int × Int)) (n1 d1 n2 d2 : Int) (w : World) (hl : RowsI 2 ClC w v L) (hc : RowsI 2 FC w vc c) (h1 : L.length ≤ 20) (h2 : c.length ≤ 30) (hS : c.all smF24 = true) (hT : [(n1, d1), (n2, d2)].all smF8 = true) (hco : ∀ x ∈ c, DOk x) (o1 : DOk (n1, d1)) (o2 : DOk (n2, d2))
    (C : List Rat) (hcm : c.map fr8 = C) (p u : Rat) (hu1 : fracQ n1 d1 = p) (hu2 : fracQ n2 d2 = u) (sp : SzQ 1 p) (su : SzQ 1 u) (r1 r2 : Int) (hr1 : relV L p u = r1) (hr2 : relE L p u = r2) (W : Int) (hW : clE L = W) (hn : ¬ W = 0) :
    Calls Tryz.prog 7 #[v, vc, .agg #[.int .i64 n1, .int .i64 d1], .agg #[.int .i64 n2, .int .i64 d2]] w (RetV w (.bool true)) := by
  obtain ⟨ao, cap, rfl, hc1, hc2, hc3⟩ := hl.slice
  obtain ⟨ai, ci, rfl, hd1, hd2, hd3⟩ := hc.slice
  have hs := Below.refl w.heap.size w
  have HLI := Lib.hid hl
  have HC1 := Lib.hid hc
  have HS := Lib.hid hS
  have HT := Lib.hid hT
  have HCO := Lib.hid hco
  have O1 := Lib.hid o1
  have O2 := Lib.hid o2
  have HCM := Lib.hid hcm
  have HU1 := Lib.hid hu1
  have HU2 := Lib.hid hu2
  have HR1 := Lib.hid hr1
  have HR2 := Lib.hid hr2
  have HW := Lib.hid hW
  have HWN := Lib.hid hn
  clear hl hc hS hT hco o1 o2 hcm hu1 hu2 hr1 hr2 hW hn
  go_enter Tryz.func7, Tryz.ntmps7
  go_wp2_with fail
  refine Calls.abs ?_
  intro w1 hW
  have hG : Gr [] w w1 := by rw [hW]; exact (Gr.refl _ _).alloc.alloc
  have hbw : Below w.heap.size w w1 := hG.below0 hs.size
  have hk : KeepD w w1 := hG.keep True.intro
  have sz_w1 : w.heap.size ≤ w.heap.size := hs.size
  have Blchance : Bx w1 (w.heap.size) 23 #[.int .i64 n1, .int .i64 d1] := by rw [hW]; exact ((Bx.new0 _ _ _).alloc _)
  have Blconfidence : Bx w1 (w.heap.size + 1) 23 #[.int .i64 n2, .int .i64 d2] := by rw [hW]; exact (Bx.new0 _ _ _)
  replace hs := hs.trans hbw
  clear hW hG hk hbw
  have hz_w1 : w.heap.size + 1 < w1.heap.size := Blconfidence.lt
  with_reducible refine (l8_awake _).mono ?_
  rintro e w2 ⟨rfl, hb⟩
  replace hs := bStep hs hb
  replace Blchance := Blchance.mono hb
  replace Blconfidence := Blconfidence.mono hb
  clear hb
  have q1 : ¬ (20 < L.length) := (by omega)
  have q1d : ((20 : Int) < (L.length : Int)) = False := eq_false (by omega)
  have q2 : ¬ (30 < c.length) := (by omega)
  have q2d : ((30 : Int) < (c.length : Int)) = False := eq_false (by omega)
  go_wp2_with fail
  with_reducible refine (l8_small24 _ c _ (HC1.out.mono FC.kept hs)).mono ?_
  rintro e w3 ⟨rfl, hb⟩
  replace hs := bStep hs hb
  replace Blchance := Blchance.mono hb
  replace Blconfidence := Blconfidence.mono hb
  clear hb
  obtain ⟨b3, Hb3⟩ : ∃ b : Bool, b = c.all smF24 := ⟨_, rfl⟩
  rw [← Hb3]
  replace Hb3 := Lib.hid Hb3
  have q4 : c.all smF24 = true := HS.out
  obtain rfl : b3 = true := by rw [Hb3.out]; exact q4
  have q4H := Lib.hid q4
  clear q4
  have cchance_0 : w3.cell? ⟨w.heap.size, 0, none⟩ = some (.int .i64 n1) := Blchance.at 0 rfl
  have cchance_1 : w3.cell? ⟨w.heap.size, 1, none⟩ = some (.int .i64 d1) := Blchance.at 1 rfl
  have Lchance : w.heap.size < w3.heap.size := Blchance.lt
  have cconfidence_0 : w3.cell? ⟨w.heap.size + 1, 0, none⟩ = some (.int .i64 n2) := Blconfidence.at 0 rfl
  have cconfidence_1 : w3.cell? ⟨w.heap.size + 1, 1, none⟩ = some (.int .i64 d2) := Blconfidence.at 1 rfl
  have Lconfidence : w.heap.size + 1 < w3.heap.size := Blconfidence.lt
  have Lconfidence_0 : w.heap.size < w3.heap.size := by omega
  go_wp2_with fail
  clear cchance_0 cchance_1 cconfidence_0 cconfidence_1 Lchance Lconfidence Lconfidence_0
  refine Calls.abs ?_
  intro w4 hW
  have hG : Gr [] w3 w4 := by rw [hW]; exact (Gr.refl _ _).alloc
  have hbw : Below w.heap.size w3 w4 := hG.below0 hs.size
  have hk : KeepD w3 w4 := hG.keep True.intro
  have sz_w4 : w.heap.size ≤ w3.heap.size := hs.size
  have nchance_w4 : w.heap.size < w3.heap.size := Blchance.lt
  have nconfidence_w4 : w.heap.size + 1 < w3.heap.size := Blconfidence.lt
  have Blls : Bx w4 (w3.heap.size) 23 #[.int .i64 n1, .int .i64 d1, .int .i64 n2, .int .i64 d2] := by rw [hW]; exact (Bx.new0 _ _ _)
  replace hs := hs.trans hbw
  replace Blchance := hG.bx Blchance notMem0
  replace Blconfidence := hG.bx Blconfidence notMem0
  clear hW hG hk hbw
  have hz_w4 : w3.heap.size < w4.heap.size := Blls.lt
  with_reducible refine (l8_small8 _ [(n1, d1), (n2, d2)] _ (rowsFt2 Blls)).mono ?_
  rintro e w5 ⟨rfl, hb⟩
  replace hs := bStep hs hb
  replace Blchance := Blchance.mono hb
  replace Blconfidence := Blconfidence.mono hb
  replace Blls := Blls.mono hb
  clear hb
  obtain ⟨b5, Hb5⟩ : ∃ b : Bool, b = [(n1, d1), (n2, d2)].all smF8 := ⟨_, rfl⟩
  rw [← Hb5]
  replace Hb5 := Lib.hid Hb5
  have q6 : [(n1, d1), (n2, d2)].all smF8 = true := HT.out
  obtain rfl : b5 = true := by rw [Hb5.out]; exact q6
  have q6H := Lib.hid q6
  clear q6
  go_wp2_with fail
  with_reducible refine (l8_classes _ (HLI.out.mono ClC.kept hs) (by omega)).mono ?_
  rintro e w6 ⟨_, rfl, hm7, hb⟩
  obtain ⟨ahm7, khm7, rfl, hm71, hm72, -⟩ := hm7.toI.slice
  replace hs := bStep hs hb
  replace Blchance := Blchance.mono hb
  replace Blconfidence := Blconfidence.mono hb
  replace Blls := Blls.mono hb
  clear hb
  go_wp2_with fail
  with_reducible refine (l8_list _ c _ (HC1.out.mono FC.kept hs) (by omega) HCO.out).mono ?_
  rintro e w7 ⟨_, _, rfl, ha8, hb9, hb⟩
  rw [HCM.out] at ha8
  obtain ⟨aha8, kha8, rfl, ha81, ha82, -⟩ := ha8.toI.slice
  rw [HCM.out] at hb9
  obtain ⟨ahb9, khb9, rfl, hb91, hb92, -⟩ := hb9.toI.slice
  replace hs := bStep hs hb
  replace Blchance := Blchance.mono hb
  replace Blconfidence := Blconfidence.mono hb
  replace Blls := Blls.mono hb
  replace hm7 := rowsJ ClC.kept _ _ _ hm7 hb
  clear hb
  go_wp2_with fail
  with_reducible refine (r8_Classes_all _ hm7.toI HW.out).mono ?_
  rintro e w8 ⟨rfl, hb⟩
  replace hs := bStep hs hb
  replace Blchance := Blchance.mono hb
  replace Blconfidence := Blconfidence.mono hb
  replace Blls := Blls.mono hb
  replace hm7 := rowsJ ClC.kept _ _ _ hm7 hb
  replace ha8 := rowsJ PC.kept _ _ _ ha8 hb
  replace hb9 := rowsJ RC.kept _ _ _ hb9 hb
  clear hb
  go_wp2_with fail
  with_reducible refine (al_Rising_bad _ (HLI.out.mono ClC.kept hs) HW.out HWN.out).mono ?_
  rintro e w9 ⟨rfl, hb⟩
  replace hs := bStep hs hb
  replace Blchance := Blchance.mono hb
  replace Blconfidence := Blconfidence.mono hb
  replace Blls := Blls.mono hb
  replace hm7 := rowsJ ClC.kept _ _ _ hm7 hb
  replace ha8 := rowsJ PC.kept _ _ _ ha8 hb
  replace hb9 := rowsJ RC.kept _ _ _ hb9 hb
  clear hb
  go_wp2_with fail
  with_reducible refine (al_Misfit_bad _ (HLI.out.mono ClC.kept hs) HW.out ha8 HWN.out).mono ?_
  rintro e w10 ⟨_, rfl, h10, hb⟩
  obtain ⟨sh10, ah10, nh10, ch10, Ah10, Nh10, Ch10, rfl⟩ := h10.shape
  replace hs := bStep hs hb
  replace Blchance := Blchance.mono hb
  replace Blconfidence := Blconfidence.mono hb
  replace Blls := Blls.mono hb
  replace hm7 := rowsJ ClC.kept _ _ _ hm7 hb
  replace ha8 := rowsJ PC.kept _ _ _ ha8 hb
  replace hb9 := rowsJ RC.kept _ _ _ hb9 hb
  clear hb
  have q11b : (W == W) = true := beq_self_eq_true _
  have q11n : (W != W) = false := bne_self_eq_false _
  have q12 : ¬ (W = 0) := HWN.out
  have q12b : (W == 0) = false := beq_eq_false_iff_ne.2 (by omega)
  have q12n : (W != 0) = true := bne_iff_ne.2 (by omega)
  have q12H := Lib.hid q12
  clear q12
  have q13b : (W == W) = true := beq_self_eq_true _
  have q13n : (W != W) = false := bne_self_eq_false _
  have q14 : ¬ (W = 0) := HWN.out
  have q14b : (W == 0) = false := beq_eq_false_iff_ne.2 (by omega)
  have q14n : (W != 0) = true := bne_iff_ne.2 (by omega)
  have q14H := Lib.hid q14
  clear q14
  go_upto_region 28 with fail
  refine Code.abs ?_
  intro w11 hW
  have hG : Gr [] w10 w11 := by rw [hW]; exact (Gr.refl _ _).alloc
  have hbw : Below w.heap.size w10 w11 := hG.below0 hs.size
  have hk : KeepD w10 w11 := hG.keep True.intro
  have sz_w11 : w.heap.size ≤ w10.heap.size := hs.size
  have nchance_w11 : w.heap.size < w10.heap.size := Blchance.lt
  have nconfidence_w11 : w.heap.size + 1 < w10.heap.size := Blconfidence.lt
  have nls_w11 : w3.heap.size < w10.heap.size := Blls.lt
  have Bly : Bx w11 (w10.heap.size) 29 #[.bool sh10, .slice ah10 nh10 ch10, .slice Ah10 Nh10 Ch10] := by rw [hW]; exact (Bx.new0 _ _ _)
  replace hs := hs.trans hbw
  replace hm7 := rowsJ ClC.kept _ _ _ hm7 (hG.below0 (Nat.le_refl _))
  replace ha8 := rowsJ PC.kept _ _ _ ha8 (hG.below0 (Nat.le_refl _))
  replace hb9 := rowsJ RC.kept _ _ _ hb9 (hG.below0 (Nat.le_refl _))
  replace Blchance := hG.bx Blchance notMem0
  replace Blconfidence := hG.bx Blconfidence notMem0
  replace Blls := hG.bx Blls notMem0
  replace h10 := h10.keep hk
  clear hW hG hk hbw
  have hz_w11 : w10.heap.size < w11.heap.size := Bly.lt
  refine U_region (S := fun w' => w'.cell? ⟨w.heap.size, 0, none⟩ = some (.int .i64 n1) ∧ w'.cell? ⟨w.heap.size, 1, none⟩ = some (.int .i64 d1) ∧ w'.cell? ⟨w.heap.size + 1, 0, none⟩ = some (.int .i64 n2) ∧ w'.cell? ⟨w.heap.size + 1, 1, none⟩ = some (.int .i64 d2)) (by kernel_rfl) 11 ?_
  refine AnyU.abs ?_
  intro w12 hW
  have hb : Below w11.heap.size w11 w12 := by rw [hW]; exact bDrew _
  replace hs := bStep hs hb
  replace Blchance := Blchance.mono hb
  replace Blconfidence := Blconfidence.mono hb
  replace Blls := Blls.mono hb
  replace Bly := Bly.mono hb
  replace h10 := h10.mono hb
  replace hm7 := rowsJ ClC.kept _ _ _ hm7 hb
  replace ha8 := rowsJ PC.kept _ _ _ ha8 hb
  replace hb9 := rowsJ RC.kept _ _ _ hb9 hb
  clear hb hW
  have cchance_0 : w12.cell? ⟨w.heap.size, 0, none⟩ = some (.int .i64 n1) := Blchance.at 0 rfl
  have cchance_1 : w12.cell? ⟨w.heap.size, 1, none⟩ = some (.int .i64 d1) := Blchance.at 1 rfl
  have cconfidence_0 : w12.cell? ⟨w.heap.size + 1, 0, none⟩ = some (.int .i64 n2) := Blconfidence.at 0 rfl
  have cconfidence_1 : w12.cell? ⟨w.heap.size + 1, 1, none⟩ = some (.int .i64 d2) := Blconfidence.at 1 rfl
  have hH := (show w12.cell? ⟨w.heap.size, 0, none⟩ = some (.int .i64 n1) ∧ w12.cell? ⟨w.heap.size, 1, none⟩ = some (.int .i64 d1) ∧ w12.cell? ⟨w.heap.size + 1, 0, none⟩ = some (.int .i64 n2) ∧ w12.cell? ⟨w.heap.size + 1, 1, none⟩ = some (.int .i64 d2) from ⟨cchance_0, cchance_1, cconfidence_0, cconfidence_1⟩)
  refine U_tk 0 151 ?_ ?_ hH ?_
  rotate_left
  · (intro w hSw; (try dsimp only at hSw); go_simp; try with_reducible rfl)
  simp only [LY]
  refine U_tk 1 152 ?_ ?_ hH ?_
  rotate_left
  · (intro w hSw; (try dsimp only at hSw); go_simp; try with_reducible rfl)
  simp only [LY]
  refine U_tk 3 154 ?_ ?_ hH ?_
  rotate_left
  · (intro w hSw; (try dsimp only at hSw); go_simp; try with_reducible rfl)
  simp only [LY]
  clear hH
  refine U_one (i := 2) (by kernel_rfl) rfl (fun K hK => ?_)
  go_simp
  (with_reducible refine (l1_OfE _ O1.out HU1.out).mono ?_)
  rintro e w13 ⟨_, rfl, h15, hb⟩
  obtain ⟨sh15, ah15, nh15, ch15, Ah15, Nh15, Ch15, rfl⟩ := h15.shape
  replace hs := bStep hs hb
  replace Blchance := Blchance.mono hb
  replace Blconfidence := Blconfidence.mono hb
  replace Blls := Blls.mono hb
  replace Bly := Bly.mono hb
  replace h10 := h10.mono hb
  replace hm7 := rowsJ ClC.kept _ _ _ hm7 hb
  replace ha8 := rowsJ PC.kept _ _ _ ha8 hb
  replace hb9 := rowsJ RC.kept _ _ _ hb9 hb
  replace cchance_0 := cellK cchance_0 hb
  replace cchance_1 := cellK cchance_1 hb
  replace cconfidence_0 := cellK cconfidence_0 hb
  replace cconfidence_1 := cellK cconfidence_1 hb
  clear hb
  try go_wp2_with fail
  refine hK.out _ _ ⟨cchance_0, cchance_1, cconfidence_0, cconfidence_1⟩ (fun hH => ?_)
  clear hK K
  try simp only [LY]
  clear hH
  refine U_one (i := 4) (by kernel_rfl) rfl (fun K hK => ?_)
  go_simp
  (with_reducible refine (l1_OfE _ O2.out HU2.out).mono ?_)
  rintro e w14 ⟨_, rfl, h16, hb⟩
  obtain ⟨sh16, ah16, nh16, ch16, Ah16, Nh16, Ch16, rfl⟩ := h16.shape
  replace hs := bStep hs hb
  replace Blchance := Blchance.mono hb
  replace Blconfidence := Blconfidence.mono hb
  replace Blls := Blls.mono hb
  replace Bly := Bly.mono hb
  replace h10 := h10.mono hb
  replace h15 := h15.mono hb
  replace hm7 := rowsJ ClC.kept _ _ _ hm7 hb
  replace ha8 := rowsJ PC.kept _ _ _ ha8 hb
  replace hb9 := rowsJ RC.kept _ _ _ hb9 hb
  replace cchance_0 := cellK cchance_0 hb
  replace cchance_1 := cellK cchance_1 hb
  replace cconfidence_0 := cellK cconfidence_0 hb
  replace cconfidence_1 := cellK cconfidence_1 hb
  clear hb
  try go_wp2_with fail
  refine hK.out _ _ ⟨cchance_0, cchance_1, cconfidence_0, cconfidence_1⟩ (fun hH => ?_)
  clear hK K
  try simp only [LY]
  clear hH
  refine U_one (i := 5) (by kernel_rfl) rfl (fun K hK => ?_)
  go_simp
  (with_reducible refine (al_Reliable_all _ (HLI.out.mono ClC.kept hs) h15 sp h16 su HR1.out HR2.out).mono ?_)
  rintro e w15 ⟨rfl, hb⟩
  replace hs := bStep hs hb
  replace Blchance := Blchance.mono hb
  replace Blconfidence := Blconfidence.mono hb
  replace Blls := Blls.mono hb
  replace Bly := Bly.mono hb
  replace h10 := h10.mono hb
  replace h15 := h15.mono hb
  replace h16 := h16.mono hb
  replace hm7 := rowsJ ClC.kept _ _ _ hm7 hb
  replace ha8 := rowsJ PC.kept _ _ _ ha8 hb
  replace hb9 := rowsJ RC.kept _ _ _ hb9 hb
  replace cchance_0 := cellK cchance_0 hb
  replace cchance_1 := cellK cchance_1 hb
  replace cconfidence_0 := cellK cconfidence_0 hb
  replace cconfidence_1 := cellK cconfidence_1 hb
  clear hb
  try go_wp2_with fail
  refine hK.out _ _ ⟨cchance_0, cchance_1, cconfidence_0, cconfidence_1⟩ (fun hH => ?_)
  clear hK K
  try simp only [LY]
  refine U_tk 6 150 ?_ ?_ hH ?_
  rotate_left
  · (intro w hSw; (try dsimp only at hSw); go_simp; try with_reducible rfl)
  simp only [LY]
  refine U_tk 7 157 ?_ ?_ hH ?_
  rotate_left
  · (intro w hSw; (try dsimp only at hSw); go_simp; try with_reducible rfl)
  simp only [LY]
  refine U_tk 8 158 ?_ ?_ hH ?_
  rotate_left
  · (intro w hSw; (try dsimp only at hSw); go_simp; try with_reducible rfl)
  simp only [LY]
  refine U_tk 9 21 ?_ ?_ hH ?_
  rotate_left
  · (intro w hSw; (try dsimp only at hSw); go_simp; try with_reducible rfl)
  simp only [LY]
  refine U_tk 10 22 ?_ ?_ hH ?_
  rotate_left
  · (intro w hSw; (try dsimp only at hSw); go_simp; try with_reducible rfl)
  simp only [LY]
  clear hH
  refine U_endN (by kernel_rfl) ?_
  clear cchance_0 cchance_1 cconfidence_0 cconfidence_1
  go_upto_region 29 with fail
  refine U_region (S := fun w' => w'.cell? ⟨w.heap.size, 0, none⟩ = some (.int .i64 n1) ∧ w'.cell? ⟨w.heap.size, 1, none⟩ = some (.int .i64 d1) ∧ w'.cell? ⟨w.heap.size + 1, 0, none⟩ = some (.int .i64 n2) ∧ w'.cell? ⟨w.heap.size + 1, 1, none⟩ = some (.int .i64 d2)) (by kernel_rfl) 11 ?_
  refine AnyU.abs ?_
  intro w16 hW
  have hb : Below w15.heap.size w15 w16 := by rw [hW]; exact bDrew _
  replace hs := bStep hs hb
  replace Blchance := Blchance.mono hb
  replace Blconfidence := Blconfidence.mono hb
  replace Blls := Blls.mono hb
  replace Bly := Bly.mono hb
  replace h10 := h10.mono hb
  replace h15 := h15.mono hb
  replace h16 := h16.mono hb
  replace hm7 := rowsJ ClC.kept _ _ _ hm7 hb
  replace ha8 := rowsJ PC.kept _ _ _ ha8 hb
  replace hb9 := rowsJ RC.kept _ _ _ hb9 hb
  clear hb hW
  have cchance_0 : w16.cell? ⟨w.heap.size, 0, none⟩ = some (.int .i64 n1) := Blchance.at 0 rfl
  have cchance_1 : w16.cell? ⟨w.heap.size, 1, none⟩ = some (.int .i64 d1) := Blchance.at 1 rfl
  have cconfidence_0 : w16.cell? ⟨w.heap.size + 1, 0, none⟩ = some (.int .i64 n2) := Blconfidence.at 0 rfl
  have cconfidence_1 : w16.cell? ⟨w.heap.size + 1, 1, none⟩ = some (.int .i64 d2) := Blconfidence.at 1 rfl
  have hH := (show w16.cell? ⟨w.heap.size, 0, none⟩ = some (.int .i64 n1) ∧ w16.cell? ⟨w.heap.size, 1, none⟩ = some (.int .i64 d1) ∧ w16.cell? ⟨w.heap.size + 1, 0, none⟩ = some (.int .i64 n2) ∧ w16.cell? ⟨w.heap.size + 1, 1, none⟩ = some (.int .i64 d2) from ⟨cchance_0, cchance_1, cconfidence_0, cconfidence_1⟩)
  refine U_tk 0 160 ?_ ?_ hH ?_
  rotate_left
  · (intro w hSw; (try dsimp only at hSw); go_simp; try with_reducible rfl)
  simp only [LY]
  refine U_tk 1 161 ?_ ?_ hH ?_
  rotate_left
  · (intro w hSw; (try dsimp only at hSw); go_simp; try with_reducible rfl)
  simp only [LY]
  refine U_tk 3 163 ?_ ?_ hH ?_
  rotate_left
  · (intro w hSw; (try dsimp only at hSw); go_simp; try with_reducible rfl)
  simp only [LY]
  clear hH
  refine U_one (i := 2) (by kernel_rfl) rfl (fun K hK => ?_)
  go_simp
  (with_reducible refine (r1_OfE _ O1.out HU1.out).mono ?_)
  rintro e w17 ⟨_, rfl, h17, hb⟩
  obtain ⟨sh17, ah17, nh17, ch17, Ah17, Nh17, Ch17, rfl⟩ := h17.shape
  replace hs := bStep hs hb
  replace Blchance := Blchance.mono hb
  replace Blconfidence := Blconfidence.mono hb
  replace Blls := Blls.mono hb
  replace Bly := Bly.mono hb
  replace h10 := h10.mono hb
  replace h15 := h15.mono hb
  replace h16 := h16.mono hb
  replace hm7 := rowsJ ClC.kept _ _ _ hm7 hb
  replace ha8 := rowsJ PC.kept _ _ _ ha8 hb
  replace hb9 := rowsJ RC.kept _ _ _ hb9 hb
  replace cchance_0 := cellK cchance_0 hb
  replace cchance_1 := cellK cchance_1 hb
  replace cconfidence_0 := cellK cconfidence_0 hb
  replace cconfidence_1 := cellK cconfidence_1 hb
  clear hb
  try go_wp2_with fail
  refine hK.out _ _ ⟨cchance_0, cchance_1, cconfidence_0, cconfidence_1⟩ (fun hH => ?_)
  clear hK K
  try simp only [LY]
  clear hH
  refine U_one (i := 4) (by kernel_rfl) rfl (fun K hK => ?_)
  go_simp
  (with_reducible refine (r1_OfE _ O2.out HU2.out).mono ?_)
  rintro e w18 ⟨_, rfl, h18, hb⟩
  obtain ⟨sh18, ah18, nh18, ch18, Ah18, Nh18, Ch18, rfl⟩ := h18.shape
  replace hs := bStep hs hb
  replace Blchance := Blchance.mono hb
  replace Blconfidence := Blconfidence.mono hb
  replace Blls := Blls.mono hb
  replace Bly := Bly.mono hb
  replace h10 := h10.mono hb
  replace h15 := h15.mono hb
  replace h16 := h16.mono hb
  replace h17 := h17.mono hb
  replace hm7 := rowsJ ClC.kept _ _ _ hm7 hb
  replace ha8 := rowsJ PC.kept _ _ _ ha8 hb
  replace hb9 := rowsJ RC.kept _ _ _ hb9 hb
  replace cchance_0 := cellK cchance_0 hb
  replace cchance_1 := cellK cchance_1 hb
  replace cconfidence_0 := cellK cconfidence_0 hb
  replace cconfidence_1 := cellK cconfidence_1 hb
  clear hb
  try go_wp2_with fail
  refine hK.out _ _ ⟨cchance_0, cchance_1, cconfidence_0, cconfidence_1⟩ (fun hH => ?_)
  clear hK K
  try simp only [LY]
  clear hH
  refine U_one (i := 5) (by kernel_rfl) rfl (fun K hK => ?_)
  go_simp
  (with_reducible refine (r8_Reliable_all _ hm7.toI h17 sp h18 su HR1.out HR2.out).mono ?_)
  rintro e w19 ⟨rfl, hb⟩
  replace hs := bStep hs hb
  replace Blchance := Blchance.mono hb
  replace Blconfidence := Blconfidence.mono hb
  replace Blls := Blls.mono hb
  replace Bly := Bly.mono hb
  replace h10 := h10.mono hb
  replace h15 := h15.mono hb
  replace h16 := h16.mono hb
  replace h17 := h17.mono hb
  replace h18 := h18.mono hb
  replace hm7 := rowsJ ClC.kept _ _ _ hm7 hb
  replace ha8 := rowsJ PC.kept _ _ _ ha8 hb
  replace hb9 := rowsJ RC.kept _ _ _ hb9 hb
  replace cchance_0 := cellK cchance_0 hb
  replace cchance_1 := cellK cchance_1 hb
  replace cconfidence_0 := cellK cconfidence_0 hb
  replace cconfidence_1 := cellK cconfidence_1 hb
  clear hb
  try go_wp2_with fail
  refine hK.out _ _ ⟨cchance_0, cchance_1, cconfidence_0, cconfidence_1⟩ (fun hH => ?_)
  clear hK K
  try simp only [LY]
  refine U_tk 6 159 ?_ ?_ hH ?_
  rotate_left
  · (intro w hSw; (try dsimp only at hSw); go_simp; try with_reducible rfl)
  simp only [LY]
  refine U_tk 7 166 ?_ ?_ hH ?_
  rotate_left
  · (intro w hSw; (try dsimp only at hSw); go_simp; try with_reducible rfl)
  simp only [LY]
  refine U_tk 8 167 ?_ ?_ hH ?_
  rotate_left
  · (intro w hSw; (try dsimp only at hSw); go_simp; try with_reducible rfl)
  simp only [LY]
  refine U_tk 9 23 ?_ ?_ hH ?_
  rotate_left
  · (intro w hSw; (try dsimp only at hSw); go_simp; try with_reducible rfl)
  simp only [LY]
  refine U_tk 10 24 ?_ ?_ hH ?_
  rotate_left
  · (intro w hSw; (try dsimp only at hSw); go_simp; try with_reducible rfl)
  simp only [LY]
  clear hH
  refine U_endN (by kernel_rfl) ?_
  clear cchance_0 cchance_1 cconfidence_0 cconfidence_1
  have q19b : (r1 == r1) = true := beq_self_eq_true _
  have q19n : (r1 != r1) = false := bne_self_eq_false _
  have q20b : (r2 == r2) = true := beq_self_eq_true _
  have q20n : (r2 != r2) = false := bne_self_eq_false _
  go_wp2
  go_ret
  exact ⟨rfl, hs⟩

set_option maxRecDepth 100000 in
set_option maxHeartbeats 16000000 in
theorem l8_Rises_siz (v vc : Value) (L : List Cls) (c : List (Int × Int)) (n1 d1 n2 d2 : Int) (w : World) (hl : RowsI 2 ClC w v L) (hc : RowsI 2 FC w vc c) (h1 : L.length ≤ 20) (h2 : c.length ≤ 30) (hS : c.all smF24 = true) (hT : [(n1, d1), (n2, d2)].all smF8 = true) (hco : ∀ x ∈ c, DOk x) (o1 : DOk (n1, d1)) (o2 : DOk (n2, d2))
    (C : List Rat) (hcm : c.map fr8 = C) (p u : Rat) (hu1 : fracQ n1 d1 = p) (hu2 : fracQ n2 d2 = u) (sp : SzQ 1 p) (su : SzQ 1 u) (r1 r2 : Int) (hr1 : relV L p u = r1) (hr2 : relE L p u = r2)
    (hW : clE L = 0) (hok : ∀ x ∈ L, ClOk x) (l1 : 1 ≤ L.length) (l16 : L.length ≤ 16) (X : List Rat) (hX : outR (pavL L) = X) (hXz : ∀ i, i < X.length → SzQ 1 (nthQ X i)) (x1 : X.length ≤ L.length) (x2 : L.length ≤ X.length) (n1_ : ¬ C.length = L.length) :
    Calls Tryz.prog 7 #[v, vc, .agg #[.int .i64 n1, .int .i64 d1], .agg #[.int .i64 n2, .int .i64 d2]] w (RetV w (.bool true)) := by
  obtain ⟨ao, cap, rfl, hc1, hc2, hc3⟩ := hl.slice
  obtain ⟨ai, ci, rfl, hd1, hd2, hd3⟩ := hc.slice
  have hs := Below.refl w.heap.size w
  have HLI := Lib.hid hl
  have HC1 := Lib.hid hc
  have HS := Lib.hid hS
  have HT := Lib.hid hT
  have HCO := Lib.hid hco
  have O1 := Lib.hid o1
  have O2 := Lib.hid o2
  have HCM := Lib.hid hcm
  have HU1 := Lib.hid hu1
  have HU2 := Lib.hid hu2
  have HR1 := Lib.hid hr1
  have HR2 := Lib.hid hr2
  have HW := Lib.hid hW
  have HOK := Lib.hid hok
  have HX := Lib.hid hX
  have HXZ := Lib.hid hXz
  clear hl hc hS hT hco o1 o2 hcm hu1 hu2 hr1 hr2 hW hok hX hXz
  go_enter Tryz.func7, Tryz.ntmps7
  go_wp2_with fail
  refine Calls.abs ?_
  intro w1 hW
  have hG : Gr [] w w1 := by rw [hW]; exact (Gr.refl _ _).alloc.alloc
  have hbw : Below w.heap.size w w1 := hG.below0 hs.size
  have hk : KeepD w w1 := hG.keep True.intro
  have sz_w1 : w.heap.size ≤ w.heap.size := hs.size
  have Blchance : Bx w1 (w.heap.size) 23 #[.int .i64 n1, .int .i64 d1] := by rw [hW]; exact ((Bx.new0 _ _ _).alloc _)
  have Blconfidence : Bx w1 (w.heap.size + 1) 23 #[.int .i64 n2, .int .i64 d2] := by rw [hW]; exact (Bx.new0 _ _ _)
  replace hs := hs.trans hbw
  clear hW hG hk hbw
  have hz_w1 : w.heap.size + 1 < w1.heap.size := Blconfidence.lt
  with_reducible refine (l8_awake _).mono ?_
  rintro e w2 ⟨rfl, hb⟩
  replace hs := bStep hs hb
  replace Blchance := Blchance.mono hb
  replace Blconfidence := Blconfidence.mono hb
  clear hb
  have q1 : ¬ (20 < L.length) := (by omega)
  have q1d : ((20 : Int) < (L.length : Int)) = False := eq_false (by omega)
  have q2 : ¬ (30 < c.length) := (by omega)
  have q2d : ((30 : Int) < (c.length : Int)) = False := eq_false (by omega)
  go_wp2_with fail
  with_reducible refine (l8_small24 _ c _ (HC1.out.mono FC.kept hs)).mono ?_
  rintro e w3 ⟨rfl, hb⟩
  replace hs := bStep hs hb
  replace Blchance := Blchance.mono hb
  replace Blconfidence := Blconfidence.mono hb
  clear hb
  obtain ⟨b3, Hb3⟩ : ∃ b : Bool, b = c.all smF24 := ⟨_, rfl⟩
  rw [← Hb3]
  replace Hb3 := Lib.hid Hb3
  have q4 : c.all smF24 = true := HS.out
  obtain rfl : b3 = true := by rw [Hb3.out]; exact q4
  have q4H := Lib.hid q4
  clear q4
  have cchance_0 : w3.cell? ⟨w.heap.size, 0, none⟩ = some (.int .i64 n1) := Blchance.at 0 rfl
  have cchance_1 : w3.cell? ⟨w.heap.size, 1, none⟩ = some (.int .i64 d1) := Blchance.at 1 rfl
  have Lchance : w.heap.size < w3.heap.size := Blchance.lt
  have cconfidence_0 : w3.cell? ⟨w.heap.size + 1, 0, none⟩ = some (.int .i64 n2) := Blconfidence.at 0 rfl
  have cconfidence_1 : w3.cell? ⟨w.heap.size + 1, 1, none⟩ = some (.int .i64 d2) := Blconfidence.at 1 rfl
  have Lconfidence : w.heap.size + 1 < w3.heap.size := Blconfidence.lt
  have Lconfidence_0 : w.heap.size < w3.heap.size := by omega
  go_wp2_with fail
  clear cchance_0 cchance_1 cconfidence_0 cconfidence_1 Lchance Lconfidence Lconfidence_0
  refine Calls.abs ?_
  intro w4 hW
  have hG : Gr [] w3 w4 := by rw [hW]; exact (Gr.refl _ _).alloc
  have hbw : Below w.heap.size w3 w4 := hG.below0 hs.size
  have hk : KeepD w3 w4 := hG.keep True.intro
  have sz_w4 : w.heap.size ≤ w3.heap.size := hs.size
  have nchance_w4 : w.heap.size < w3.heap.size := Blchance.lt
  have nconfidence_w4 : w.heap.size + 1 < w3.heap.size := Blconfidence.lt
  have Blls : Bx w4 (w3.heap.size) 23 #[.int .i64 n1, .int .i64 d1, .int .i64 n2, .int .i64 d2] := by rw [hW]; exact (Bx.new0 _ _ _)
  replace hs := hs.trans hbw
  replace Blchance := hG.bx Blchance notMem0
  replace Blconfidence := hG.bx Blconfidence notMem0
  clear hW hG hk hbw
  have hz_w4 : w3.heap.size < w4.heap.size := Blls.lt
  with_reducible refine (l8_small8 _ [(n1, d1), (n2, d2)] _ (rowsFt2 Blls)).mono ?_
  rintro e w5 ⟨rfl, hb⟩
  replace hs := bStep hs hb
  replace Blchance := Blchance.mono hb
  replace Blconfidence := Blconfidence.mono hb
  replace Blls := Blls.mono hb
  clear hb
  obtain ⟨b5, Hb5⟩ : ∃ b : Bool, b = [(n1, d1), (n2, d2)].all smF8 := ⟨_, rfl⟩
  rw [← Hb5]
  replace Hb5 := Lib.hid Hb5
  have q6 : [(n1, d1), (n2, d2)].all smF8 = true := HT.out
  obtain rfl : b5 = true := by rw [Hb5.out]; exact q6
  have q6H := Lib.hid q6
  clear q6
  go_wp2_with fail
  with_reducible refine (l8_classes _ (HLI.out.mono ClC.kept hs) (by omega)).mono ?_
  rintro e w6 ⟨_, rfl, hm7, hb⟩
  obtain ⟨ahm7, khm7, rfl, hm71, hm72, -⟩ := hm7.toI.slice
  replace hs := bStep hs hb
  replace Blchance := Blchance.mono hb
  replace Blconfidence := Blconfidence.mono hb
  replace Blls := Blls.mono hb
  clear hb
  go_wp2_with fail
  with_reducible refine (l8_list _ c _ (HC1.out.mono FC.kept hs) (by omega) HCO.out).mono ?_
  rintro e w7 ⟨_, _, rfl, ha8, hb9, hb⟩
  rw [HCM.out] at ha8
  obtain ⟨aha8, kha8, rfl, ha81, ha82, -⟩ := ha8.toI.slice
  rw [HCM.out] at hb9
  obtain ⟨ahb9, khb9, rfl, hb91, hb92, -⟩ := hb9.toI.slice
  replace hs := bStep hs hb
  replace Blchance := Blchance.mono hb
  replace Blconfidence := Blconfidence.mono hb
  replace Blls := Blls.mono hb
  replace hm7 := rowsJ ClC.kept _ _ _ hm7 hb
  clear hb
  go_wp2_with fail
  with_reducible refine (r8_Classes_all _ hm7.toI HW.out).mono ?_
  rintro e w8 ⟨rfl, hb⟩
  replace hs := bStep hs hb
  replace Blchance := Blchance.mono hb
  replace Blconfidence := Blconfidence.mono hb
  replace Blls := Blls.mono hb
  replace hm7 := rowsJ ClC.kept _ _ _ hm7 hb
  replace ha8 := rowsJ PC.kept _ _ _ ha8 hb
  replace hb9 := rowsJ RC.kept _ _ _ hb9 hb
  clear hb
  go_wp2_with fail
  with_reducible refine (al_Rising _ (HLI.out.mono ClC.kept hs) (by omega) (by omega) HOK.out).mono ?_
  rintro e w9 ⟨_, _, rfl, hx10, rfl, hb⟩
  rw [HX.out] at hx10
  obtain ⟨bhx10, ohx10, khx10, rfl, hx101, hx102, -⟩ := hx10.open_ (by omega)
  replace hs := bStep hs hb
  replace Blchance := Blchance.mono hb
  replace Blconfidence := Blconfidence.mono hb
  replace Blls := Blls.mono hb
  replace hm7 := rowsJ ClC.kept _ _ _ hm7 hb
  replace ha8 := rowsJ PC.kept _ _ _ ha8 hb
  replace hb9 := rowsJ RC.kept _ _ _ hb9 hb
  clear hb
  go_wp2_with fail
  with_reducible refine (al_Misfit_size _ (HLI.out.mono ClC.kept hs) HW.out ha8 rfl (by omega)).mono ?_
  rintro e w10 ⟨_, rfl, h11, hb⟩
  obtain ⟨sh11, ah11, nh11, ch11, Ah11, Nh11, Ch11, rfl⟩ := h11.shape
  replace hs := bStep hs hb
  replace Blchance := Blchance.mono hb
  replace Blconfidence := Blconfidence.mono hb
  replace Blls := Blls.mono hb
  replace hm7 := rowsJ ClC.kept _ _ _ hm7 hb
  replace ha8 := rowsJ PC.kept _ _ _ ha8 hb
  replace hb9 := rowsJ RC.kept _ _ _ hb9 hb
  replace hx10 := rowsJ PC.kept _ _ _ hx10 hb
  clear hb
  go_upto_region 11 with fail
  refine Code.abs ?_
  intro w11 hW
  have hG : Gr [] w10 w11 := by rw [hW]; exact (Gr.refl _ _).alloc
  have hbw : Below w.heap.size w10 w11 := hG.below0 hs.size
  have hk : KeepD w10 w11 := hG.keep True.intro
  have sz_w11 : w.heap.size ≤ w10.heap.size := hs.size
  have nchance_w11 : w.heap.size < w10.heap.size := Blchance.lt
  have nconfidence_w11 : w.heap.size + 1 < w10.heap.size := Blconfidence.lt
  have nls_w11 : w3.heap.size < w10.heap.size := Blls.lt
  have Bly : Bx w11 (w10.heap.size) 29 #[.bool sh11, .slice ah11 nh11 ch11, .slice Ah11 Nh11 Ch11] := by rw [hW]; exact (Bx.new0 _ _ _)
  replace hs := hs.trans hbw
  replace hm7 := rowsJ ClC.kept _ _ _ hm7 (hG.below0 (Nat.le_refl _))
  replace ha8 := rowsJ PC.kept _ _ _ ha8 (hG.below0 (Nat.le_refl _))
  replace hb9 := rowsJ RC.kept _ _ _ hb9 (hG.below0 (Nat.le_refl _))
  replace hx10 := rowsJ PC.kept _ _ _ hx10 (hG.below0 (Nat.le_refl _))
  replace Blchance := hG.bx Blchance notMem0
  replace Blconfidence := hG.bx Blconfidence notMem0
  replace Blls := hG.bx Blls notMem0
  replace h11 := h11.keep hk
  clear hW hG hk hbw
  have hz_w11 : w10.heap.size < w11.heap.size := Bly.lt
  have q12 : ¬ (C.length = L.length) := n1_
  have q12b : ((C.length : Int) == (L.length : Int)) = false := beq_eq_false_iff_ne.2 (by omega)
  have q12n : ((C.length : Int) != (L.length : Int)) = true := bne_iff_ne.2 (by omega)
  have q12H := Lib.hid q12
  clear q12
  have q13 : ¬ (C.length = L.length) := n1_
  have q13b : ((C.length : Int) == (L.length : Int)) = false := beq_eq_false_iff_ne.2 (by omega)
  have q13n : ((C.length : Int) != (L.length : Int)) = true := bne_iff_ne.2 (by omega)
  have q13H := Lib.hid q13
  clear q13
  refine U_region (S := fun w' => True) (by kernel_rfl) 28 ?_
  refine AnyU.abs ?_
  intro w12 hW
  have hb : Below w11.heap.size w11 w12 := by rw [hW]; exact bDrew _
  replace hs := bStep hs hb
  replace Blchance := Blchance.mono hb
  replace Blconfidence := Blconfidence.mono hb
  replace Blls := Blls.mono hb
  replace Bly := Bly.mono hb
  replace h11 := h11.mono hb
  replace hm7 := rowsJ ClC.kept _ _ _ hm7 hb
  replace ha8 := rowsJ PC.kept _ _ _ ha8 hb
  replace hb9 := rowsJ RC.kept _ _ _ hb9 hb
  replace hx10 := rowsJ PC.kept _ _ _ hx10 hb
  clear hb hW
  have hH := (show True from True.intro)
  refine U_tk 0 89 ?_ ?_ hH ?_
  rotate_left
  · (intro w hSw; (try dsimp only at hSw); go_simp; try with_reducible rfl)
  simp only [LY]
  refine U_tk 1 90 ?_ ?_ hH ?_
  rotate_left
  · (intro w hSw; (try dsimp only at hSw); go_simp; try with_reducible rfl)
  simp only [LY]
  refine U_tk 2 91 ?_ ?_ hH ?_
  rotate_left
  · (intro w hSw; (try dsimp only at hSw); go_simp; try with_reducible rfl)
  simp only [LY]
  refine U_tk 3 92 ?_ ?_ hH ?_
  rotate_left
  · (intro w hSw; (try dsimp only at hSw); go_simp; try with_reducible rfl)
  simp only [LY]
  refine U_tk 4 93 ?_ ?_ hH ?_
  rotate_left
  · (intro w hSw; (try dsimp only at hSw); go_simp; try with_reducible rfl)
  simp only [LY]
  refine U_tk 5 94 ?_ ?_ hH ?_
  rotate_left
  · (intro w hSw; (try dsimp only at hSw); go_simp; try with_reducible rfl)
  simp only [LY]
  refine U_tk 6 95 ?_ ?_ hH ?_
  rotate_left
  · (intro w hSw; (try dsimp only at hSw); go_simp; try with_reducible rfl)
  simp only [LY]
  refine U_tk 7 96 ?_ ?_ hH ?_
  rotate_left
  · (intro w hSw; (try dsimp only at hSw); go_simp; try with_reducible rfl)
  simp only [LY]
  refine U_tk 8 97 ?_ ?_ hH ?_
  rotate_left
  · (intro w hSw; (try dsimp only at hSw); go_simp; try with_reducible rfl)
  simp only [LY]
  refine U_tk 9 98 ?_ ?_ hH ?_
  rotate_left
  · (intro w hSw; (try dsimp only at hSw); go_simp; try with_reducible rfl)
  simp only [LY]
  refine U_tk 10 99 ?_ ?_ hH ?_
  rotate_left
  · (intro w hSw; (try dsimp only at hSw); go_simp; try with_reducible rfl)
  simp only [LY]
  refine U_tk 11 100 ?_ ?_ hH ?_
  rotate_left
  · (intro w hSw; (try dsimp only at hSw); go_simp; try with_reducible rfl)
  simp only [LY]
  refine U_tk 12 101 ?_ ?_ hH ?_
  rotate_left
  · (intro w hSw; (try dsimp only at hSw); go_simp; try with_reducible rfl)
  simp only [LY]
  refine U_tk 13 102 ?_ ?_ hH ?_
  rotate_left
  · (intro w hSw; (try dsimp only at hSw); go_simp; try with_reducible rfl)
  simp only [LY]
  refine U_tk 14 103 ?_ ?_ hH ?_
  rotate_left
  · (intro w hSw; (try dsimp only at hSw); go_simp; try with_reducible rfl)
  simp only [LY]
  refine U_tk 15 104 ?_ ?_ hH ?_
  rotate_left
  · (intro w hSw; (try dsimp only at hSw); go_simp; try with_reducible rfl)
  simp only [LY]
  refine U_tu 16 105 hH ?_
  simp only [LY]
  refine U_tu 17 106 hH ?_
  simp only [LY]
  refine U_tu 18 107 hH ?_
  simp only [LY]
  refine U_tu 19 108 hH ?_
  simp only [LY]
  refine U_tu 20 109 hH ?_
  simp only [LY]
  refine U_tu 21 110 hH ?_
  simp only [LY]
  clear hH
  refine U_one (i := 22) (by kernel_rfl) rfl (fun K hK => ?_)
  go_simp
  refine hK.out _ _ True.intro (fun hH => ?_)
  clear hK K
  try simp only [LY]
  clear hH
  refine U_one (i := 23) (by kernel_rfl) rfl (fun K hK => ?_)
  go_simp
  refine hK.out _ _ True.intro (fun hH => ?_)
  clear hK K
  try simp only [LY]
  refine U_tu 24 113 hH ?_
  simp only [LY]
  refine U_tu 25 114 hH ?_
  simp only [LY]
  refine U_tk 26 115 ?_ ?_ hH ?_
  rotate_left
  · (intro w hSw; (try dsimp only at hSw); go_simp; try with_reducible rfl)
  simp only [LY]
  refine U_tk 27 116 ?_ ?_ hH ?_
  rotate_left
  · (intro w hSw; (try dsimp only at hSw); go_simp; try with_reducible rfl)
  simp only [LY]
  clear hH
  refine U_endN (by kernel_rfl) ?_
  go_wp2_with fail
  with_reducible refine (r8_Rising _ hm7.toI (by omega) (by omega) HOK.out).mono ?_
  rintro e w13 ⟨_, rfl, hz14, hb⟩
  rw [HX.out] at hz14
  obtain ⟨bhz14, ohz14, khz14, rfl, hz141, hz142, -⟩ := hz14.open_ (by omega)
  replace hs := bStep hs hb
  replace Blchance := Blchance.mono hb
  replace Blconfidence := Blconfidence.mono hb
  replace Blls := Blls.mono hb
  replace Bly := Bly.mono hb
  replace h11 := h11.mono hb
  replace hm7 := rowsJ ClC.kept _ _ _ hm7 hb
  replace ha8 := rowsJ PC.kept _ _ _ ha8 hb
  replace hb9 := rowsJ RC.kept _ _ _ hb9 hb
  replace hx10 := rowsJ PC.kept _ _ _ hx10 hb
  clear hb
  have q15b : ((X.length : Int) == (X.length : Int)) = true := beq_self_eq_true _
  have q15n : ((X.length : Int) != (X.length : Int)) = false := bne_self_eq_false _
  go_wp2
  go_loopw [126] (fun s126 wq => ∃ i : Nat, i ≤ X.length ∧ s126 = .int .i64 i ∧ Below w.heap.size w wq ∧ Bx wq (w.heap.size) 23 #[.int .i64 n1, .int .i64 d1] ∧ Bx wq (w.heap.size + 1) 23 #[.int .i64 n2, .int .i64 d2] ∧ Bx wq (w3.heap.size) 23 #[.int .i64 n1, .int .i64 d1, .int .i64 n2, .int .i64 d2] ∧ Bx wq (w10.heap.size) 29 #[.bool sh11, .slice ah11 nh11 ch11, .slice Ah11 Nh11 Ch11] ∧ PV wq (.agg #[.bool sh11, .slice ah11 nh11 ch11, .slice Ah11 Nh11 Ch11]) (0) ∧ Rows 2 66 ClC wq (.slice ahm7 L.length khm7) L ∧ Rows 3 29 PC wq (.slice aha8 C.length kha8) C ∧ Rows 3 36 RC wq (.slice ahb9 C.length khb9) C ∧ Rows 3 29 PC wq (.slice (some ⟨bhx10, ohx10, none⟩) X.length khx10) X ∧ Rows 3 36 RC wq (.slice (some ⟨bhz14, ohz14, none⟩) X.length khz14) X) (fun s126 _ => X.length - (intOf s126).toNat)
  case atStart => exact ⟨0, Nat.zero_le _, rfl, hs, Blchance, Blconfidence, Blls, Bly, h11, hm7, ha8, hb9, hx10, hz14⟩
  case round =>
    clear Blchance Blconfidence Blls Bly h11 hm7 ha8 hb9 hx10 hz14 hs
    obtain ⟨i, k_le, rfl, hs, Blchance, Blconfidence, Blls, Bly, h11, hm7, ha8, hb9, hx10, hz14⟩ := hrel
    by_cases q16 : i < X.length
    · have q16d : ((i : Int) < (X.length : Int)) = True := eq_true (by omega)
      go_upto_region 19 with fail
      have BI17a : i < X.length := by omega
      have BI17b : ((i : Int) : Int) < (X.length : Int) := by omega
      obtain ⟨ge18a, ae18a, ne18a, ce18a, Ae18a, Ne18a, De18a, Ee180, Ee181, Ee182, he18a, le18⟩ := rowP_at hx10 (show i < X.length by omega)
      obtain ⟨ge19a, ae19a, ne19a, ce19a, Ae19a, Ne19a, De19a, Ee190, Ee191, Ee192, he19a, le19⟩ := rowR_at hz14 (show i < X.length by omega)
      refine U_region (S := fun w' => w'.cell? ⟨bhx10, ohx10 + i * 3, none⟩ = some (.bool ge18a) ∧ w'.cell? ⟨bhx10, ohx10 + i * 3 + 1, none⟩ = some (.slice ae18a ne18a ce18a) ∧ w'.cell? ⟨bhx10, ohx10 + i * 3 + 2, none⟩ = some (.slice Ae18a Ne18a De18a) ∧ w'.cell? ⟨bhz14, ohz14 + i * 3, none⟩ = some (.bool ge19a) ∧ w'.cell? ⟨bhz14, ohz14 + i * 3 + 1, none⟩ = some (.slice ae19a ne19a ce19a) ∧ w'.cell? ⟨bhz14, ohz14 + i * 3 + 2, none⟩ = some (.slice Ae19a Ne19a De19a)) (by kernel_rfl) 10 ?_
      refine AnyU.abs ?_
      intro w34 hW
      have hb : Below wr.heap.size wr w34 := by rw [hW]; exact bDrew _
      replace hs := bStep hs hb
      replace Blchance := Blchance.mono hb
      replace Blconfidence := Blconfidence.mono hb
      replace Blls := Blls.mono hb
      replace Bly := Bly.mono hb
      replace h11 := h11.mono hb
      replace he18a := he18a.mono hb
      replace he19a := he19a.mono hb
      replace hm7 := rowsJ ClC.kept _ _ _ hm7 hb
      replace ha8 := rowsJ PC.kept _ _ _ ha8 hb
      replace hb9 := rowsJ RC.kept _ _ _ hb9 hb
      replace hx10 := rowsJ PC.kept _ _ _ hx10 hb
      replace hz14 := rowsJ RC.kept _ _ _ hz14 hb
      replace Ee180 := cellK Ee180 hb
      replace Ee181 := cellK Ee181 hb
      replace Ee182 := cellK Ee182 hb
      replace Ee190 := cellK Ee190 hb
      replace Ee191 := cellK Ee191 hb
      replace Ee192 := cellK Ee192 hb
      clear hb hW
      have hH := (show w34.cell? ⟨bhx10, ohx10 + i * 3, none⟩ = some (.bool ge18a) ∧ w34.cell? ⟨bhx10, ohx10 + i * 3 + 1, none⟩ = some (.slice ae18a ne18a ce18a) ∧ w34.cell? ⟨bhx10, ohx10 + i * 3 + 2, none⟩ = some (.slice Ae18a Ne18a De18a) ∧ w34.cell? ⟨bhz14, ohz14 + i * 3, none⟩ = some (.bool ge19a) ∧ w34.cell? ⟨bhz14, ohz14 + i * 3 + 1, none⟩ = some (.slice ae19a ne19a ce19a) ∧ w34.cell? ⟨bhz14, ohz14 + i * 3 + 2, none⟩ = some (.slice Ae19a Ne19a De19a) from ⟨Ee180, Ee181, Ee182, Ee190, Ee191, Ee192⟩)
      refine U_tk 0 129 ?_ ?_ hH ?_
      rotate_left
      · (intro w hSw; (try dsimp only at hSw); go_simp; try with_reducible rfl)
      simp only [LY]
      refine U_tk 1 130 ?_ ?_ hH ?_
      rotate_left
      · (intro w hSw; (try dsimp only at hSw); go_simp; try with_reducible rfl)
      simp only [LY]
      refine U_tk 2 131 ?_ ?_ hH ?_
      rotate_left
      · (intro w hSw; (try dsimp only at hSw); go_simp; try with_reducible rfl)
      simp only [LY]
      refine U_tk 3 132 ?_ ?_ hH ?_
      rotate_left
      · (intro w hSw; (try dsimp only at hSw); go_simp; try with_reducible rfl)
      simp only [LY]
      refine U_tk 4 133 ?_ ?_ hH ?_
      rotate_left
      · (intro w hSw; (try dsimp only at hSw); go_simp; try with_reducible rfl)
      simp only [LY]
      refine U_tk 5 134 ?_ ?_ hH ?_
      rotate_left
      · (intro w hSw; (try dsimp only at hSw); go_simp; try with_reducible rfl)
      simp only [LY]
      refine U_tk 6 135 ?_ ?_ hH ?_
      rotate_left
      · (intro w hSw; (try dsimp only at hSw); go_simp; try with_reducible rfl)
      simp only [LY]
      refine U_tk 7 136 ?_ ?_ hH ?_
      rotate_left
      · (intro w hSw; (try dsimp only at hSw); go_simp; try with_reducible rfl)
      simp only [LY]
      clear hH
      refine U_one (i := 8) (by kernel_rfl) rfl (fun K hK => ?_)
      go_simp
      (with_reducible refine (l1_Is _ _ _ _ he18a he19a (SzQ.fit (HXZ.out i (by omega)))).mono ?_)
      rintro e w35 ⟨rfl, hb⟩
      replace hs := bStep hs hb
      replace Blchance := Blchance.mono hb
      replace Blconfidence := Blconfidence.mono hb
      replace Blls := Blls.mono hb
      replace Bly := Bly.mono hb
      replace h11 := h11.mono hb
      replace he18a := he18a.mono hb
      replace he19a := he19a.mono hb
      replace hm7 := rowsJ ClC.kept _ _ _ hm7 hb
      replace ha8 := rowsJ PC.kept _ _ _ ha8 hb
      replace hb9 := rowsJ RC.kept _ _ _ hb9 hb
      replace hx10 := rowsJ PC.kept _ _ _ hx10 hb
      replace hz14 := rowsJ RC.kept _ _ _ hz14 hb
      replace Ee180 := cellK Ee180 hb
      replace Ee181 := cellK Ee181 hb
      replace Ee182 := cellK Ee182 hb
      replace Ee190 := cellK Ee190 hb
      replace Ee191 := cellK Ee191 hb
      replace Ee192 := cellK Ee192 hb
      clear hb
      try go_wp2_with fail
      refine hK.out _ _ ⟨Ee180, Ee181, Ee182, Ee190, Ee191, Ee192⟩ (fun hH => ?_)
      clear hK K
      try simp only [LY]
      refine U_tk 9 138 ?_ ?_ hH ?_
      rotate_left
      · (intro w hSw; (try dsimp only at hSw); go_simp; try with_reducible rfl)
      simp only [LY]
      clear hH
      refine U_endN (by kernel_rfl) ?_
      clear Ee180 Ee181 Ee182 Ee190 Ee191 Ee192
      go_wp2
      go_roundw
      case rel => exact ⟨i + 1, by omega, by go_num, hs, Blchance, Blconfidence, Blls, Bly, h11, hm7, ha8, hb9, hx10, hz14⟩
      all_goals first | (simp [intOf]; done) | (simp [intOf]; omega)
    · have q16d : ((i : Int) < (X.length : Int)) = False := eq_false (by omega)
      go_wp2
      go_loopw [142] (fun s142 wq => ∃ j : Nat, j ≤ L.length ∧ s142 = .int .i64 j ∧ Below w.heap.size w wq ∧ Bx wq (w.heap.size) 23 #[.int .i64 n1, .int .i64 d1] ∧ Bx wq (w.heap.size + 1) 23 #[.int .i64 n2, .int .i64 d2] ∧ Bx wq (w3.heap.size) 23 #[.int .i64 n1, .int .i64 d1, .int .i64 n2, .int .i64 d2] ∧ Bx wq (w10.heap.size) 29 #[.bool sh11, .slice ah11 nh11 ch11, .slice Ah11 Nh11 Ch11] ∧ PV wq (.agg #[.bool sh11, .slice ah11 nh11 ch11, .slice Ah11 Nh11 Ch11]) (0) ∧ Rows 2 66 ClC wq (.slice ahm7 L.length khm7) L ∧ Rows 3 29 PC wq (.slice aha8 C.length kha8) C ∧ Rows 3 36 RC wq (.slice ahb9 C.length khb9) C ∧ Rows 3 29 PC wq (.slice (some ⟨bhx10, ohx10, none⟩) X.length khx10) X ∧ Rows 3 36 RC wq (.slice (some ⟨bhz14, ohz14, none⟩) X.length khz14) X) (fun s142 _ => L.length - (intOf s142).toNat)
      case atStart => exact ⟨0, Nat.zero_le _, rfl, hs, Blchance, Blconfidence, Blls, Bly, h11, hm7, ha8, hb9, hx10, hz14⟩
      case round =>
        clear Blchance Blconfidence Blls Bly h11 hm7 ha8 hb9 hx10 hz14 hs
        obtain ⟨j, k_le, rfl, hs, Blchance, Blconfidence, Blls, Bly, h11, hm7, ha8, hb9, hx10, hz14⟩ := hrel
        by_cases q17 : j < L.length
        · have q17d : ((j : Int) < (L.length : Int)) = True := eq_true (by omega)
          obtain ⟨bhl, ohl, khl, hv_, -, -⟩ := (HLI.out.mono ClC.kept hs).openI (by omega)
          obtain ⟨rfl, rfl⟩ := sliceE hv_
          have HLJ := Lib.hid (HLI.out.mono ClC.kept hs)
          obtain ⟨Ee180, Ee181, le18⟩ := rowClI_at HLJ.out (show j < L.length by omega)
          obtain ⟨te18, Hte18⟩ : ∃ z : Int, z = (clAt L j).1 := ⟨_, rfl⟩
          obtain ⟨fe18, Hfe18⟩ : ∃ z : Int, z = (clAt L j).2 := ⟨_, rfl⟩
          rw [← Hte18] at Ee180
          rw [← Hfe18] at Ee181
          replace Hte18 := Lib.hid Hte18.symm
          replace Hfe18 := Lib.hid Hfe18.symm
          by_cases q19 : 12 < te18
          · have q19d : ((12 : Int) < te18) = True := eq_true (by omega)
            go_wp2
            clear le18 HLJ Ee180 Ee181
            refine bodyPost.abs ?_
            intro w54 hW
            have hG : Gr [] wr w54 := by rw [hW]; exact (Gr.refl _ _).alloc
            have hbw : Below w.heap.size wr w54 := hG.below0 hs.size
            have hk : KeepD wr w54 := hG.keep True.intro
            have sz_w54 : w.heap.size ≤ wr.heap.size := hs.size
            have nchance_w54 : w.heap.size < wr.heap.size := Blchance.lt
            have nconfidence_w54 : w.heap.size + 1 < wr.heap.size := Blconfidence.lt
            have nls_w54 : w3.heap.size < wr.heap.size := Blls.lt
            have ny_w54 : w10.heap.size < wr.heap.size := Bly.lt
            have Blc : Bx w54 (wr.heap.size) 57 #[.int .i64 te18, .int .i64 fe18] := by rw [hW]; exact (Bx.new0 _ _ _)
            replace hs := hs.trans hbw
            replace hm7 := rowsJ ClC.kept _ _ _ hm7 (hG.below0 (Nat.le_refl _))
            replace ha8 := rowsJ PC.kept _ _ _ ha8 (hG.below0 (Nat.le_refl _))
            replace hb9 := rowsJ RC.kept _ _ _ hb9 (hG.below0 (Nat.le_refl _))
            replace hx10 := rowsJ PC.kept _ _ _ hx10 (hG.below0 (Nat.le_refl _))
            replace hz14 := rowsJ RC.kept _ _ _ hz14 (hG.below0 (Nat.le_refl _))
            replace Blchance := hG.bx Blchance notMem0
            replace Blconfidence := hG.bx Blconfidence notMem0
            replace Blls := hG.bx Blls notMem0
            replace Bly := hG.bx Bly notMem0
            replace h11 := h11.keep hk
            clear hW hG hk hbw
            have hz_w54 : wr.heap.size < w54.heap.size := Blc.lt
            go_ret
            exact ⟨rfl, hs⟩
          · have q19d : ((12 : Int) < te18) = False := eq_false (by omega)
            go_upto_region 27 with fail
            clear le18 HLJ Ee180 Ee181
            refine Code.abs ?_
            intro w54 hW
            have hG : Gr [] wr w54 := by rw [hW]; exact (Gr.refl _ _).alloc
            have hbw : Below w.heap.size wr w54 := hG.below0 hs.size
            have hk : KeepD wr w54 := hG.keep True.intro
            have sz_w54 : w.heap.size ≤ wr.heap.size := hs.size
            have nchance_w54 : w.heap.size < wr.heap.size := Blchance.lt
            have nconfidence_w54 : w.heap.size + 1 < wr.heap.size := Blconfidence.lt
            have nls_w54 : w3.heap.size < wr.heap.size := Blls.lt
            have ny_w54 : w10.heap.size < wr.heap.size := Bly.lt
            have Blc : Bx w54 (wr.heap.size) 57 #[.int .i64 te18, .int .i64 fe18] := by rw [hW]; exact (Bx.new0 _ _ _)
            replace hs := hs.trans hbw
            replace hm7 := rowsJ ClC.kept _ _ _ hm7 (hG.below0 (Nat.le_refl _))
            replace ha8 := rowsJ PC.kept _ _ _ ha8 (hG.below0 (Nat.le_refl _))
            replace hb9 := rowsJ RC.kept _ _ _ hb9 (hG.below0 (Nat.le_refl _))
            replace hx10 := rowsJ PC.kept _ _ _ hx10 (hG.below0 (Nat.le_refl _))
            replace hz14 := rowsJ RC.kept _ _ _ hz14 (hG.below0 (Nat.le_refl _))
            replace Blchance := hG.bx Blchance notMem0
            replace Blconfidence := hG.bx Blconfidence notMem0
            replace Blls := hG.bx Blls notMem0
            replace Bly := hG.bx Bly notMem0
            replace h11 := h11.keep hk
            clear hW hG hk hbw
            have hz_w54 : wr.heap.size < w54.heap.size := Blc.lt
            go_wp2
            go_roundw
            case rel => exact ⟨j + 1, by omega, by go_num, hs, Blchance, Blconfidence, Blls, Bly, h11, hm7, ha8, hb9, hx10, hz14⟩
            all_goals first | (simp [intOf]; done) | (simp [intOf]; omega)
        · have q17d : ((j : Int) < (L.length : Int)) = False := eq_false (by omega)
          go_upto_region 28 with fail
          refine U_region (S := fun w' => w'.cell? ⟨w.heap.size, 0, none⟩ = some (.int .i64 n1) ∧ w'.cell? ⟨w.heap.size, 1, none⟩ = some (.int .i64 d1) ∧ w'.cell? ⟨w.heap.size + 1, 0, none⟩ = some (.int .i64 n2) ∧ w'.cell? ⟨w.heap.size + 1, 1, none⟩ = some (.int .i64 d2)) (by kernel_rfl) 11 ?_
          refine AnyU.abs ?_
          intro w54 hW
          have hb : Below wr.heap.size wr w54 := by rw [hW]; exact bDrew _
          replace hs := bStep hs hb
          replace Blchance := Blchance.mono hb
          replace Blconfidence := Blconfidence.mono hb
          replace Blls := Blls.mono hb
          replace Bly := Bly.mono hb
          replace h11 := h11.mono hb
          replace hm7 := rowsJ ClC.kept _ _ _ hm7 hb
          replace ha8 := rowsJ PC.kept _ _ _ ha8 hb
          replace hb9 := rowsJ RC.kept _ _ _ hb9 hb
          replace hx10 := rowsJ PC.kept _ _ _ hx10 hb
          replace hz14 := rowsJ RC.kept _ _ _ hz14 hb
          clear hb hW
          have cchance_0 : w54.cell? ⟨w.heap.size, 0, none⟩ = some (.int .i64 n1) := Blchance.at 0 rfl
          have cchance_1 : w54.cell? ⟨w.heap.size, 1, none⟩ = some (.int .i64 d1) := Blchance.at 1 rfl
          have cconfidence_0 : w54.cell? ⟨w.heap.size + 1, 0, none⟩ = some (.int .i64 n2) := Blconfidence.at 0 rfl
          have cconfidence_1 : w54.cell? ⟨w.heap.size + 1, 1, none⟩ = some (.int .i64 d2) := Blconfidence.at 1 rfl
          have hH := (show w54.cell? ⟨w.heap.size, 0, none⟩ = some (.int .i64 n1) ∧ w54.cell? ⟨w.heap.size, 1, none⟩ = some (.int .i64 d1) ∧ w54.cell? ⟨w.heap.size + 1, 0, none⟩ = some (.int .i64 n2) ∧ w54.cell? ⟨w.heap.size + 1, 1, none⟩ = some (.int .i64 d2) from ⟨cchance_0, cchance_1, cconfidence_0, cconfidence_1⟩)
          refine U_tk 0 151 ?_ ?_ hH ?_
          rotate_left
          · (intro w hSw; (try dsimp only at hSw); go_simp; try with_reducible rfl)
          simp only [LY]
          refine U_tk 1 152 ?_ ?_ hH ?_
          rotate_left
          · (intro w hSw; (try dsimp only at hSw); go_simp; try with_reducible rfl)
          simp only [LY]
          refine U_tk 3 154 ?_ ?_ hH ?_
          rotate_left
          · (intro w hSw; (try dsimp only at hSw); go_simp; try with_reducible rfl)
          simp only [LY]
          clear hH
          refine U_one (i := 2) (by kernel_rfl) rfl (fun K hK => ?_)
          go_simp
          (with_reducible refine (l1_OfE _ O1.out HU1.out).mono ?_)
          rintro e w55 ⟨_, rfl, h18, hb⟩
          obtain ⟨sh18, ah18, nh18, ch18, Ah18, Nh18, Ch18, rfl⟩ := h18.shape
          replace hs := bStep hs hb
          replace Blchance := Blchance.mono hb
          replace Blconfidence := Blconfidence.mono hb
          replace Blls := Blls.mono hb
          replace Bly := Bly.mono hb
          replace h11 := h11.mono hb
          replace hm7 := rowsJ ClC.kept _ _ _ hm7 hb
          replace ha8 := rowsJ PC.kept _ _ _ ha8 hb
          replace hb9 := rowsJ RC.kept _ _ _ hb9 hb
          replace hx10 := rowsJ PC.kept _ _ _ hx10 hb
          replace hz14 := rowsJ RC.kept _ _ _ hz14 hb
          replace cchance_0 := cellK cchance_0 hb
          replace cchance_1 := cellK cchance_1 hb
          replace cconfidence_0 := cellK cconfidence_0 hb
          replace cconfidence_1 := cellK cconfidence_1 hb
          clear hb
          try go_wp2_with fail
          refine hK.out _ _ ⟨cchance_0, cchance_1, cconfidence_0, cconfidence_1⟩ (fun hH => ?_)
          clear hK K
          try simp only [LY]
          clear hH
          refine U_one (i := 4) (by kernel_rfl) rfl (fun K hK => ?_)
          go_simp
          (with_reducible refine (l1_OfE _ O2.out HU2.out).mono ?_)
          rintro e w56 ⟨_, rfl, h19, hb⟩
          obtain ⟨sh19, ah19, nh19, ch19, Ah19, Nh19, Ch19, rfl⟩ := h19.shape
          replace hs := bStep hs hb
          replace Blchance := Blchance.mono hb
          replace Blconfidence := Blconfidence.mono hb
          replace Blls := Blls.mono hb
          replace Bly := Bly.mono hb
          replace h11 := h11.mono hb
          replace h18 := h18.mono hb
          replace hm7 := rowsJ ClC.kept _ _ _ hm7 hb
          replace ha8 := rowsJ PC.kept _ _ _ ha8 hb
          replace hb9 := rowsJ RC.kept _ _ _ hb9 hb
          replace hx10 := rowsJ PC.kept _ _ _ hx10 hb
          replace hz14 := rowsJ RC.kept _ _ _ hz14 hb
          replace cchance_0 := cellK cchance_0 hb
          replace cchance_1 := cellK cchance_1 hb
          replace cconfidence_0 := cellK cconfidence_0 hb
          replace cconfidence_1 := cellK cconfidence_1 hb
          clear hb
          try go_wp2_with fail
          refine hK.out _ _ ⟨cchance_0, cchance_1, cconfidence_0, cconfidence_1⟩ (fun hH => ?_)
          clear hK K
          try simp only [LY]
          clear hH
          refine U_one (i := 5) (by kernel_rfl) rfl (fun K hK => ?_)
          go_simp
          (with_reducible refine (al_Reliable_all _ (HLI.out.mono ClC.kept hs) h18 sp h19 su HR1.out HR2.out).mono ?_)
          rintro e w57 ⟨rfl, hb⟩
          replace hs := bStep hs hb
          replace Blchance := Blchance.mono hb
          replace Blconfidence := Blconfidence.mono hb
          replace Blls := Blls.mono hb
          replace Bly := Bly.mono hb
          replace h11 := h11.mono hb
          replace h18 := h18.mono hb
          replace h19 := h19.mono hb
          replace hm7 := rowsJ ClC.kept _ _ _ hm7 hb
          replace ha8 := rowsJ PC.kept _ _ _ ha8 hb
          replace hb9 := rowsJ RC.kept _ _ _ hb9 hb
          replace hx10 := rowsJ PC.kept _ _ _ hx10 hb
          replace hz14 := rowsJ RC.kept _ _ _ hz14 hb
          replace cchance_0 := cellK cchance_0 hb
          replace cchance_1 := cellK cchance_1 hb
          replace cconfidence_0 := cellK cconfidence_0 hb
          replace cconfidence_1 := cellK cconfidence_1 hb
          clear hb
          try go_wp2_with fail
          refine hK.out _ _ ⟨cchance_0, cchance_1, cconfidence_0, cconfidence_1⟩ (fun hH => ?_)
          clear hK K
          try simp only [LY]
          refine U_tk 6 150 ?_ ?_ hH ?_
          rotate_left
          · (intro w hSw; (try dsimp only at hSw); go_simp; try with_reducible rfl)
          simp only [LY]
          refine U_tk 7 157 ?_ ?_ hH ?_
          rotate_left
          · (intro w hSw; (try dsimp only at hSw); go_simp; try with_reducible rfl)
          simp only [LY]
          refine U_tk 8 158 ?_ ?_ hH ?_
          rotate_left
          · (intro w hSw; (try dsimp only at hSw); go_simp; try with_reducible rfl)
          simp only [LY]
          refine U_tk 9 21 ?_ ?_ hH ?_
          rotate_left
          · (intro w hSw; (try dsimp only at hSw); go_simp; try with_reducible rfl)
          simp only [LY]
          refine U_tk 10 22 ?_ ?_ hH ?_
          rotate_left
          · (intro w hSw; (try dsimp only at hSw); go_simp; try with_reducible rfl)
          simp only [LY]
          clear hH
          refine U_endN (by kernel_rfl) ?_
          clear cchance_0 cchance_1 cconfidence_0 cconfidence_1
          go_upto_region 29 with fail
          refine U_region (S := fun w' => w'.cell? ⟨w.heap.size, 0, none⟩ = some (.int .i64 n1) ∧ w'.cell? ⟨w.heap.size, 1, none⟩ = some (.int .i64 d1) ∧ w'.cell? ⟨w.heap.size + 1, 0, none⟩ = some (.int .i64 n2) ∧ w'.cell? ⟨w.heap.size + 1, 1, none⟩ = some (.int .i64 d2)) (by kernel_rfl) 11 ?_
          refine AnyU.abs ?_
          intro w58 hW
          have hb : Below w57.heap.size w57 w58 := by rw [hW]; exact bDrew _
          replace hs := bStep hs hb
          replace Blchance := Blchance.mono hb
          replace Blconfidence := Blconfidence.mono hb
          replace Blls := Blls.mono hb
          replace Bly := Bly.mono hb
          replace h11 := h11.mono hb
          replace h18 := h18.mono hb
          replace h19 := h19.mono hb
          replace hm7 := rowsJ ClC.kept _ _ _ hm7 hb
          replace ha8 := rowsJ PC.kept _ _ _ ha8 hb
          replace hb9 := rowsJ RC.kept _ _ _ hb9 hb
          replace hx10 := rowsJ PC.kept _ _ _ hx10 hb
          replace hz14 := rowsJ RC.kept _ _ _ hz14 hb
          clear hb hW
          have cchance_0 : w58.cell? ⟨w.heap.size, 0, none⟩ = some (.int .i64 n1) := Blchance.at 0 rfl
          have cchance_1 : w58.cell? ⟨w.heap.size, 1, none⟩ = some (.int .i64 d1) := Blchance.at 1 rfl
          have cconfidence_0 : w58.cell? ⟨w.heap.size + 1, 0, none⟩ = some (.int .i64 n2) := Blconfidence.at 0 rfl
          have cconfidence_1 : w58.cell? ⟨w.heap.size + 1, 1, none⟩ = some (.int .i64 d2) := Blconfidence.at 1 rfl
          have hH := (show w58.cell? ⟨w.heap.size, 0, none⟩ = some (.int .i64 n1) ∧ w58.cell? ⟨w.heap.size, 1, none⟩ = some (.int .i64 d1) ∧ w58.cell? ⟨w.heap.size + 1, 0, none⟩ = some (.int .i64 n2) ∧ w58.cell? ⟨w.heap.size + 1, 1, none⟩ = some (.int .i64 d2) from ⟨cchance_0, cchance_1, cconfidence_0, cconfidence_1⟩)
          refine U_tk 0 160 ?_ ?_ hH ?_
          rotate_left
          · (intro w hSw; (try dsimp only at hSw); go_simp; try with_reducible rfl)
          simp only [LY]
          refine U_tk 1 161 ?_ ?_ hH ?_
          rotate_left
          · (intro w hSw; (try dsimp only at hSw); go_simp; try with_reducible rfl)
          simp only [LY]
          refine U_tk 3 163 ?_ ?_ hH ?_
          rotate_left
          · (intro w hSw; (try dsimp only at hSw); go_simp; try with_reducible rfl)
          simp only [LY]
          clear hH
          refine U_one (i := 2) (by kernel_rfl) rfl (fun K hK => ?_)
          go_simp
          (with_reducible refine (r1_OfE _ O1.out HU1.out).mono ?_)
          rintro e w59 ⟨_, rfl, h20, hb⟩
          obtain ⟨sh20, ah20, nh20, ch20, Ah20, Nh20, Ch20, rfl⟩ := h20.shape
          replace hs := bStep hs hb
          replace Blchance := Blchance.mono hb
          replace Blconfidence := Blconfidence.mono hb
          replace Blls := Blls.mono hb
          replace Bly := Bly.mono hb
          replace h11 := h11.mono hb
          replace h18 := h18.mono hb
          replace h19 := h19.mono hb
          replace hm7 := rowsJ ClC.kept _ _ _ hm7 hb
          replace ha8 := rowsJ PC.kept _ _ _ ha8 hb
          replace hb9 := rowsJ RC.kept _ _ _ hb9 hb
          replace hx10 := rowsJ PC.kept _ _ _ hx10 hb
          replace hz14 := rowsJ RC.kept _ _ _ hz14 hb
          replace cchance_0 := cellK cchance_0 hb
          replace cchance_1 := cellK cchance_1 hb
          replace cconfidence_0 := cellK cconfidence_0 hb
          replace cconfidence_1 := cellK cconfidence_1 hb
          clear hb
          try go_wp2_with fail
          refine hK.out _ _ ⟨cchance_0, cchance_1, cconfidence_0, cconfidence_1⟩ (fun hH => ?_)
          clear hK K
          try simp only [LY]
          clear hH
          refine U_one (i := 4) (by kernel_rfl) rfl (fun K hK => ?_)
          go_simp
          (with_reducible refine (r1_OfE _ O2.out HU2.out).mono ?_)
          rintro e w60 ⟨_, rfl, h21, hb⟩
          obtain ⟨sh21, ah21, nh21, ch21, Ah21, Nh21, Ch21, rfl⟩ := h21.shape
          replace hs := bStep hs hb
          replace Blchance := Blchance.mono hb
          replace Blconfidence := Blconfidence.mono hb
          replace Blls := Blls.mono hb
          replace Bly := Bly.mono hb
          replace h11 := h11.mono hb
          replace h18 := h18.mono hb
          replace h19 := h19.mono hb
          replace h20 := h20.mono hb
          replace hm7 := rowsJ ClC.kept _ _ _ hm7 hb
          replace ha8 := rowsJ PC.kept _ _ _ ha8 hb
          replace hb9 := rowsJ RC.kept _ _ _ hb9 hb
          replace hx10 := rowsJ PC.kept _ _ _ hx10 hb
          replace hz14 := rowsJ RC.kept _ _ _ hz14 hb
          replace cchance_0 := cellK cchance_0 hb
          replace cchance_1 := cellK cchance_1 hb
          replace cconfidence_0 := cellK cconfidence_0 hb
          replace cconfidence_1 := cellK cconfidence_1 hb
          clear hb
          try go_wp2_with fail
          refine hK.out _ _ ⟨cchance_0, cchance_1, cconfidence_0, cconfidence_1⟩ (fun hH => ?_)
          clear hK K
          try simp only [LY]
          clear hH
          refine U_one (i := 5) (by kernel_rfl) rfl (fun K hK => ?_)
          go_simp
          (with_reducible refine (r8_Reliable_all _ hm7.toI h20 sp h21 su HR1.out HR2.out).mono ?_)
          rintro e w61 ⟨rfl, hb⟩
          replace hs := bStep hs hb
          replace Blchance := Blchance.mono hb
          replace Blconfidence := Blconfidence.mono hb
          replace Blls := Blls.mono hb
          replace Bly := Bly.mono hb
          replace h11 := h11.mono hb
          replace h18 := h18.mono hb
          replace h19 := h19.mono hb
          replace h20 := h20.mono hb
          replace h21 := h21.mono hb
          replace hm7 := rowsJ ClC.kept _ _ _ hm7 hb
          replace ha8 := rowsJ PC.kept _ _ _ ha8 hb
          replace hb9 := rowsJ RC.kept _ _ _ hb9 hb
          replace hx10 := rowsJ PC.kept _ _ _ hx10 hb
          replace hz14 := rowsJ RC.kept _ _ _ hz14 hb
          replace cchance_0 := cellK cchance_0 hb
          replace cchance_1 := cellK cchance_1 hb
          replace cconfidence_0 := cellK cconfidence_0 hb
          replace cconfidence_1 := cellK cconfidence_1 hb
          clear hb
          try go_wp2_with fail
          refine hK.out _ _ ⟨cchance_0, cchance_1, cconfidence_0, cconfidence_1⟩ (fun hH => ?_)
          clear hK K
          try simp only [LY]
          refine U_tk 6 159 ?_ ?_ hH ?_
          rotate_left
          · (intro w hSw; (try dsimp only at hSw); go_simp; try with_reducible rfl)
          simp only [LY]
          refine U_tk 7 166 ?_ ?_ hH ?_
          rotate_left
          · (intro w hSw; (try dsimp only at hSw); go_simp; try with_reducible rfl)
          simp only [LY]
          refine U_tk 8 167 ?_ ?_ hH ?_
          rotate_left
          · (intro w hSw; (try dsimp only at hSw); go_simp; try with_reducible rfl)
          simp only [LY]
          refine U_tk 9 23 ?_ ?_ hH ?_
          rotate_left
          · (intro w hSw; (try dsimp only at hSw); go_simp; try with_reducible rfl)
          simp only [LY]
          refine U_tk 10 24 ?_ ?_ hH ?_
          rotate_left
          · (intro w hSw; (try dsimp only at hSw); go_simp; try with_reducible rfl)
          simp only [LY]
          clear hH
          refine U_endN (by kernel_rfl) ?_
          clear cchance_0 cchance_1 cconfidence_0 cconfidence_1
          have q22b : (r1 == r1) = true := beq_self_eq_true _
          have q22n : (r1 != r1) = false := bne_self_eq_false _
          have q23b : (r2 == r2) = true := beq_self_eq_true _
          have q23n : (r2 != r2) = false := bne_self_eq_false _
          go_wp2
          go_ret
          exact ⟨rfl, hs⟩

set_option maxRecDepth 100000 in
set_option maxHeartbeats 16000000 in
theorem l8_Rises_ok (v vc : Value) (L : List Cls) (c : List (Int × Int)) (n1 d1 n2 d2 : Int) (w : World) (hl : RowsI 2 ClC w v L) (hc : RowsI 2 FC w vc c) (h1 : L.length ≤ 20) (h2 : c.length ≤ 30) (hS : c.all smF24 = true) (hT : [(n1, d1), (n2, d2)].all smF8 = true) (hco : ∀ x ∈ c, DOk x) (o1 : DOk (n1, d1)) (o2 : DOk (n2, d2))
    (C : List Rat) (hcm : c.map fr8 = C) (p u : Rat) (hu1 : fracQ n1 d1 = p) (hu2 : fracQ n2 d2 = u) (sp : SzQ 1 p) (su : SzQ 1 u) (r1 r2 : Int) (hr1 : relV L p u = r1) (hr2 : relE L p u = r2)
    (hW : clE L = 0) (hok : ∀ x ∈ L, ClOk x) (l1 : 1 ≤ L.length) (l16 : L.length ≤ 16) (X : List Rat) (hX : outR (pavL L) = X) (hXz : ∀ i, i < X.length → SzQ 1 (nthQ X i)) (x1 : X.length ≤ L.length) (x2 : L.length ≤ X.length) (m1 : C.length ≤ L.length) (m2 : L.length ≤ C.length) (hCz : ∀ i, i < C.length → SzQ 1 (nthQ C i)) (best : Rat) (hbe : mfL L C = best) (sbest : SzQ 200 best) :
    Calls Tryz.prog 7 #[v, vc, .agg #[.int .i64 n1, .int .i64 d1], .agg #[.int .i64 n2, .int .i64 d2]] w (RetV w (.bool true)) := by
  obtain ⟨ao, cap, rfl, hc1, hc2, hc3⟩ := hl.slice
  obtain ⟨ai, ci, rfl, hd1, hd2, hd3⟩ := hc.slice
  have hs := Below.refl w.heap.size w
  have HLI := Lib.hid hl
  have HC1 := Lib.hid hc
  have HS := Lib.hid hS
  have HT := Lib.hid hT
  have HCO := Lib.hid hco
  have O1 := Lib.hid o1
  have O2 := Lib.hid o2
  have HCM := Lib.hid hcm
  have HU1 := Lib.hid hu1
  have HU2 := Lib.hid hu2
  have HR1 := Lib.hid hr1
  have HR2 := Lib.hid hr2
  have HW := Lib.hid hW
  have HOK := Lib.hid hok
  have HX := Lib.hid hX
  have HXZ := Lib.hid hXz
  have HCZ := Lib.hid hCz
  have HBE := Lib.hid hbe
  clear hl hc hS hT hco o1 o2 hcm hu1 hu2 hr1 hr2 hW hok hX hXz hCz hbe
  go_enter Tryz.func7, Tryz.ntmps7
  go_wp2_with fail
  refine Calls.abs ?_
  intro w1 hW
  have hG : Gr [] w w1 := by rw [hW]; exact (Gr.refl _ _).alloc.alloc
  have hbw : Below w.heap.size w w1 := hG.below0 hs.size
  have hk : KeepD w w1 := hG.keep True.intro
  have sz_w1 : w.heap.size ≤ w.heap.size := hs.size
  have Blchance : Bx w1 (w.heap.size) 23 #[.int .i64 n1, .int .i64 d1] := by rw [hW]; exact ((Bx.new0 _ _ _).alloc _)
  have Blconfidence : Bx w1 (w.heap.size + 1) 23 #[.int .i64 n2, .int .i64 d2] := by rw [hW]; exact (Bx.new0 _ _ _)
  replace hs := hs.trans hbw
  clear hW hG hk hbw
  have hz_w1 : w.heap.size + 1 < w1.heap.size := Blconfidence.lt
  with_reducible refine (l8_awake _).mono ?_
  rintro e w2 ⟨rfl, hb⟩
  replace hs := bStep hs hb
  replace Blchance := Blchance.mono hb
  replace Blconfidence := Blconfidence.mono hb
  clear hb
  have q1 : ¬ (20 < L.length) := (by omega)
  have q1d : ((20 : Int) < (L.length : Int)) = False := eq_false (by omega)
  have q2 : ¬ (30 < c.length) := (by omega)
  have q2d : ((30 : Int) < (c.length : Int)) = False := eq_false (by omega)
  go_wp2_with fail
  with_reducible refine (l8_small24 _ c _ (HC1.out.mono FC.kept hs)).mono ?_
  rintro e w3 ⟨rfl, hb⟩
  replace hs := bStep hs hb
  replace Blchance := Blchance.mono hb
  replace Blconfidence := Blconfidence.mono hb
  clear hb
  obtain ⟨b3, Hb3⟩ : ∃ b : Bool, b = c.all smF24 := ⟨_, rfl⟩
  rw [← Hb3]
  replace Hb3 := Lib.hid Hb3
  have q4 : c.all smF24 = true := HS.out
  obtain rfl : b3 = true := by rw [Hb3.out]; exact q4
  have q4H := Lib.hid q4
  clear q4
  have cchance_0 : w3.cell? ⟨w.heap.size, 0, none⟩ = some (.int .i64 n1) := Blchance.at 0 rfl
  have cchance_1 : w3.cell? ⟨w.heap.size, 1, none⟩ = some (.int .i64 d1) := Blchance.at 1 rfl
  have Lchance : w.heap.size < w3.heap.size := Blchance.lt
  have cconfidence_0 : w3.cell? ⟨w.heap.size + 1, 0, none⟩ = some (.int .i64 n2) := Blconfidence.at 0 rfl
  have cconfidence_1 : w3.cell? ⟨w.heap.size + 1, 1, none⟩ = some (.int .i64 d2) := Blconfidence.at 1 rfl
  have Lconfidence : w.heap.size + 1 < w3.heap.size := Blconfidence.lt
  have Lconfidence_0 : w.heap.size < w3.heap.size := by omega
  go_wp2_with fail
  clear cchance_0 cchance_1 cconfidence_0 cconfidence_1 Lchance Lconfidence Lconfidence_0
  refine Calls.abs ?_
  intro w4 hW
  have hG : Gr [] w3 w4 := by rw [hW]; exact (Gr.refl _ _).alloc
  have hbw : Below w.heap.size w3 w4 := hG.below0 hs.size
  have hk : KeepD w3 w4 := hG.keep True.intro
  have sz_w4 : w.heap.size ≤ w3.heap.size := hs.size
  have nchance_w4 : w.heap.size < w3.heap.size := Blchance.lt
  have nconfidence_w4 : w.heap.size + 1 < w3.heap.size := Blconfidence.lt
  have Blls : Bx w4 (w3.heap.size) 23 #[.int .i64 n1, .int .i64 d1, .int .i64 n2, .int .i64 d2] := by rw [hW]; exact (Bx.new0 _ _ _)
  replace hs := hs.trans hbw
  replace Blchance := hG.bx Blchance notMem0
  replace Blconfidence := hG.bx Blconfidence notMem0
  clear hW hG hk hbw
  have hz_w4 : w3.heap.size < w4.heap.size := Blls.lt
  with_reducible refine (l8_small8 _ [(n1, d1), (n2, d2)] _ (rowsFt2 Blls)).mono ?_
  rintro e w5 ⟨rfl, hb⟩
  replace hs := bStep hs hb
  replace Blchance := Blchance.mono hb
  replace Blconfidence := Blconfidence.mono hb
  replace Blls := Blls.mono hb
  clear hb
  obtain ⟨b5, Hb5⟩ : ∃ b : Bool, b = [(n1, d1), (n2, d2)].all smF8 := ⟨_, rfl⟩
  rw [← Hb5]
  replace Hb5 := Lib.hid Hb5
  have q6 : [(n1, d1), (n2, d2)].all smF8 = true := HT.out
  obtain rfl : b5 = true := by rw [Hb5.out]; exact q6
  have q6H := Lib.hid q6
  clear q6
  go_wp2_with fail
  with_reducible refine (l8_classes _ (HLI.out.mono ClC.kept hs) (by omega)).mono ?_
  rintro e w6 ⟨_, rfl, hm7, hb⟩
  obtain ⟨ahm7, khm7, rfl, hm71, hm72, -⟩ := hm7.toI.slice
  replace hs := bStep hs hb
  replace Blchance := Blchance.mono hb
  replace Blconfidence := Blconfidence.mono hb
  replace Blls := Blls.mono hb
  clear hb
  go_wp2_with fail
  with_reducible refine (l8_list _ c _ (HC1.out.mono FC.kept hs) (by omega) HCO.out).mono ?_
  rintro e w7 ⟨_, _, rfl, ha8, hb9, hb⟩
  rw [HCM.out] at ha8
  obtain ⟨aha8, kha8, rfl, ha81, ha82, -⟩ := ha8.toI.slice
  rw [HCM.out] at hb9
  obtain ⟨ahb9, khb9, rfl, hb91, hb92, -⟩ := hb9.toI.slice
  replace hs := bStep hs hb
  replace Blchance := Blchance.mono hb
  replace Blconfidence := Blconfidence.mono hb
  replace Blls := Blls.mono hb
  replace hm7 := rowsJ ClC.kept _ _ _ hm7 hb
  clear hb
  go_wp2_with fail
  with_reducible refine (r8_Classes_all _ hm7.toI HW.out).mono ?_
  rintro e w8 ⟨rfl, hb⟩
  replace hs := bStep hs hb
  replace Blchance := Blchance.mono hb
  replace Blconfidence := Blconfidence.mono hb
  replace Blls := Blls.mono hb
  replace hm7 := rowsJ ClC.kept _ _ _ hm7 hb
  replace ha8 := rowsJ PC.kept _ _ _ ha8 hb
  replace hb9 := rowsJ RC.kept _ _ _ hb9 hb
  clear hb
  go_wp2_with fail
  with_reducible refine (al_Rising _ (HLI.out.mono ClC.kept hs) (by omega) (by omega) HOK.out).mono ?_
  rintro e w9 ⟨_, _, rfl, hx10, rfl, hb⟩
  rw [HX.out] at hx10
  obtain ⟨bhx10, ohx10, khx10, rfl, hx101, hx102, -⟩ := hx10.open_ (by omega)
  replace hs := bStep hs hb
  replace Blchance := Blchance.mono hb
  replace Blconfidence := Blconfidence.mono hb
  replace Blls := Blls.mono hb
  replace hm7 := rowsJ ClC.kept _ _ _ hm7 hb
  replace ha8 := rowsJ PC.kept _ _ _ ha8 hb
  replace hb9 := rowsJ RC.kept _ _ _ hb9 hb
  clear hb
  go_wp2_with fail
  with_reducible refine (al_Misfit _ (HLI.out.mono ClC.kept hs) ha8 (by omega) (by omega) HOK.out (by omega) (by omega) HCZ.out HBE.out).mono ?_
  rintro e w10 ⟨_, rfl, h11, hb⟩
  obtain ⟨sh11, ah11, nh11, ch11, Ah11, Nh11, Ch11, rfl⟩ := h11.shape
  replace hs := bStep hs hb
  replace Blchance := Blchance.mono hb
  replace Blconfidence := Blconfidence.mono hb
  replace Blls := Blls.mono hb
  replace hm7 := rowsJ ClC.kept _ _ _ hm7 hb
  replace ha8 := rowsJ PC.kept _ _ _ ha8 hb
  replace hb9 := rowsJ RC.kept _ _ _ hb9 hb
  replace hx10 := rowsJ PC.kept _ _ _ hx10 hb
  clear hb
  go_upto_region 11 with fail
  refine Code.abs ?_
  intro w11 hW
  have hG : Gr [] w10 w11 := by rw [hW]; exact (Gr.refl _ _).alloc
  have hbw : Below w.heap.size w10 w11 := hG.below0 hs.size
  have hk : KeepD w10 w11 := hG.keep True.intro
  have sz_w11 : w.heap.size ≤ w10.heap.size := hs.size
  have nchance_w11 : w.heap.size < w10.heap.size := Blchance.lt
  have nconfidence_w11 : w.heap.size + 1 < w10.heap.size := Blconfidence.lt
  have nls_w11 : w3.heap.size < w10.heap.size := Blls.lt
  have Bly : Bx w11 (w10.heap.size) 29 #[.bool sh11, .slice ah11 nh11 ch11, .slice Ah11 Nh11 Ch11] := by rw [hW]; exact (Bx.new0 _ _ _)
  replace hs := hs.trans hbw
  replace hm7 := rowsJ ClC.kept _ _ _ hm7 (hG.below0 (Nat.le_refl _))
  replace ha8 := rowsJ PC.kept _ _ _ ha8 (hG.below0 (Nat.le_refl _))
  replace hb9 := rowsJ RC.kept _ _ _ hb9 (hG.below0 (Nat.le_refl _))
  replace hx10 := rowsJ PC.kept _ _ _ hx10 (hG.below0 (Nat.le_refl _))
  replace Blchance := hG.bx Blchance notMem0
  replace Blconfidence := hG.bx Blconfidence notMem0
  replace Blls := hG.bx Blls notMem0
  replace h11 := h11.keep hk
  clear hW hG hk hbw
  have hz_w11 : w10.heap.size < w11.heap.size := Bly.lt
  have q12 : C.length = L.length := (by omega)
  have q12b : ((C.length : Int) == (L.length : Int)) = true := beq_iff_eq.2 (by omega)
  have q12n : ((C.length : Int) != (L.length : Int)) = false := bne_eq_false_iff_eq.2 (by omega)
  have q12H := Lib.hid q12
  clear q12
  have q13 : C.length = L.length := (by omega)
  have q13b : ((C.length : Int) == (L.length : Int)) = true := beq_iff_eq.2 (by omega)
  have q13n : ((C.length : Int) != (L.length : Int)) = false := bne_eq_false_iff_eq.2 (by omega)
  have q13H := Lib.hid q13
  clear q13
  refine U_region (S := fun w' => w'.cell? ⟨w10.heap.size, 0, none⟩ = some (.bool sh11) ∧ w'.cell? ⟨w10.heap.size, 1, none⟩ = some (.slice ah11 nh11 ch11) ∧ w'.cell? ⟨w10.heap.size, 2, none⟩ = some (.slice Ah11 Nh11 Ch11)) (by kernel_rfl) 28 ?_
  refine AnyU.abs ?_
  intro w12 hW
  have hb : Below w11.heap.size w11 w12 := by rw [hW]; exact bDrew _
  replace hs := bStep hs hb
  replace Blchance := Blchance.mono hb
  replace Blconfidence := Blconfidence.mono hb
  replace Blls := Blls.mono hb
  replace Bly := Bly.mono hb
  replace h11 := h11.mono hb
  replace hm7 := rowsJ ClC.kept _ _ _ hm7 hb
  replace ha8 := rowsJ PC.kept _ _ _ ha8 hb
  replace hb9 := rowsJ RC.kept _ _ _ hb9 hb
  replace hx10 := rowsJ PC.kept _ _ _ hx10 hb
  clear hb hW
  have cy_0 : w12.cell? ⟨w10.heap.size, 0, none⟩ = some (.bool sh11) := Bly.at 0 rfl
  have cy_1 : w12.cell? ⟨w10.heap.size, 1, none⟩ = some (.slice ah11 nh11 ch11) := Bly.at 1 rfl
  have cy_2 : w12.cell? ⟨w10.heap.size, 2, none⟩ = some (.slice Ah11 Nh11 Ch11) := Bly.at 2 rfl
  have hH := (show w12.cell? ⟨w10.heap.size, 0, none⟩ = some (.bool sh11) ∧ w12.cell? ⟨w10.heap.size, 1, none⟩ = some (.slice ah11 nh11 ch11) ∧ w12.cell? ⟨w10.heap.size, 2, none⟩ = some (.slice Ah11 Nh11 Ch11) from ⟨cy_0, cy_1, cy_2⟩)
  refine U_tk 0 89 ?_ ?_ hH ?_
  rotate_left
  · (intro w hSw; (try dsimp only at hSw); go_simp; try with_reducible rfl)
  simp only [LY]
  refine U_tk 1 90 ?_ ?_ hH ?_
  rotate_left
  · (intro w hSw; (try dsimp only at hSw); go_simp; try with_reducible rfl)
  simp only [LY]
  refine U_tk 2 91 ?_ ?_ hH ?_
  rotate_left
  · (intro w hSw; (try dsimp only at hSw); go_simp; try with_reducible rfl)
  simp only [LY]
  refine U_tk 3 92 ?_ ?_ hH ?_
  rotate_left
  · (intro w hSw; (try dsimp only at hSw); go_simp; try with_reducible rfl)
  simp only [LY]
  refine U_tk 4 93 ?_ ?_ hH ?_
  rotate_left
  · (intro w hSw; (try dsimp only at hSw); go_simp; try with_reducible rfl)
  simp only [LY]
  refine U_tk 5 94 ?_ ?_ hH ?_
  rotate_left
  · (intro w hSw; (try dsimp only at hSw); go_simp; try with_reducible rfl)
  simp only [LY]
  refine U_tu 6 95 hH ?_
  simp only [LY]
  refine U_tu 7 96 hH ?_
  simp only [LY]
  refine U_tk 8 97 ?_ ?_ hH ?_
  rotate_left
  · (intro w hSw; (try dsimp only at hSw); go_simp; try with_reducible rfl)
  simp only [LY]
  refine U_tk 9 98 ?_ ?_ hH ?_
  rotate_left
  · (intro w hSw; (try dsimp only at hSw); go_simp; try with_reducible rfl)
  simp only [LY]
  refine U_tk 10 99 ?_ ?_ hH ?_
  rotate_left
  · (intro w hSw; (try dsimp only at hSw); go_simp; try with_reducible rfl)
  simp only [LY]
  refine U_tk 11 100 ?_ ?_ hH ?_
  rotate_left
  · (intro w hSw; (try dsimp only at hSw); go_simp; try with_reducible rfl)
  simp only [LY]
  refine U_tk 12 101 ?_ ?_ hH ?_
  rotate_left
  · (intro w hSw; (try dsimp only at hSw); go_simp; try with_reducible rfl)
  simp only [LY]
  refine U_tk 13 102 ?_ ?_ hH ?_
  rotate_left
  · (intro w hSw; (try dsimp only at hSw); go_simp; try with_reducible rfl)
  simp only [LY]
  refine U_tk 14 103 ?_ ?_ hH ?_
  rotate_left
  · (intro w hSw; (try dsimp only at hSw); go_simp; try with_reducible rfl)
  simp only [LY]
  refine U_tk 15 104 ?_ ?_ hH ?_
  rotate_left
  · (intro w hSw; (try dsimp only at hSw); go_simp; try with_reducible rfl)
  simp only [LY]
  refine U_tk 16 105 ?_ ?_ hH ?_
  rotate_left
  · (intro w hSw; (try dsimp only at hSw); go_simp; try with_reducible rfl)
  simp only [LY]
  refine U_tk 17 106 ?_ ?_ hH ?_
  rotate_left
  · (intro w hSw; (try dsimp only at hSw); go_simp; try with_reducible rfl)
  simp only [LY]
  refine U_tk 18 107 ?_ ?_ hH ?_
  rotate_left
  · (intro w hSw; (try dsimp only at hSw); go_simp; try with_reducible rfl)
  simp only [LY]
  refine U_tk 19 108 ?_ ?_ hH ?_
  rotate_left
  · (intro w hSw; (try dsimp only at hSw); go_simp; try with_reducible rfl)
  simp only [LY]
  refine U_tk 20 109 ?_ ?_ hH ?_
  rotate_left
  · (intro w hSw; (try dsimp only at hSw); go_simp; try with_reducible rfl)
  simp only [LY]
  refine U_tk 21 110 ?_ ?_ hH ?_
  rotate_left
  · (intro w hSw; (try dsimp only at hSw); go_simp; try with_reducible rfl)
  simp only [LY]
  clear hH
  refine U_one (i := 22) (by kernel_rfl) rfl (fun K hK => ?_)
  go_simp
  (with_reducible refine (r8_Misfit _ hm7.toI hb9 (by omega) (by omega) HOK.out (by omega) (by omega) HCZ.out HBE.out).mono ?_)
  rintro e w13 ⟨_, rfl, h14, hb⟩
  obtain ⟨sh14, ah14, nh14, ch14, Ah14, Nh14, Ch14, rfl⟩ := h14.shape
  replace hs := bStep hs hb
  replace Blchance := Blchance.mono hb
  replace Blconfidence := Blconfidence.mono hb
  replace Blls := Blls.mono hb
  replace Bly := Bly.mono hb
  replace h11 := h11.mono hb
  replace hm7 := rowsJ ClC.kept _ _ _ hm7 hb
  replace ha8 := rowsJ PC.kept _ _ _ ha8 hb
  replace hb9 := rowsJ RC.kept _ _ _ hb9 hb
  replace hx10 := rowsJ PC.kept _ _ _ hx10 hb
  replace cy_0 := cellK cy_0 hb
  replace cy_1 := cellK cy_1 hb
  replace cy_2 := cellK cy_2 hb
  clear hb
  try go_wp2_with fail
  refine hK.out _ _ ⟨cy_0, cy_1, cy_2⟩ (fun hH => ?_)
  clear hK K
  try simp only [LY]
  clear hH
  refine U_one (i := 23) (by kernel_rfl) rfl (fun K hK => ?_)
  go_simp
  (with_reducible refine (l1_Is _ _ _ _ h11 h14 (SzQ.fit sbest)).mono ?_)
  rintro e w14 ⟨rfl, hb⟩
  replace hs := bStep hs hb
  replace Blchance := Blchance.mono hb
  replace Blconfidence := Blconfidence.mono hb
  replace Blls := Blls.mono hb
  replace Bly := Bly.mono hb
  replace h11 := h11.mono hb
  replace h14 := h14.mono hb
  replace hm7 := rowsJ ClC.kept _ _ _ hm7 hb
  replace ha8 := rowsJ PC.kept _ _ _ ha8 hb
  replace hb9 := rowsJ RC.kept _ _ _ hb9 hb
  replace hx10 := rowsJ PC.kept _ _ _ hx10 hb
  replace cy_0 := cellK cy_0 hb
  replace cy_1 := cellK cy_1 hb
  replace cy_2 := cellK cy_2 hb
  clear hb
  try go_wp2_with fail
  refine hK.out _ _ ⟨cy_0, cy_1, cy_2⟩ (fun hH => ?_)
  clear hK K
  try simp only [LY]
  refine U_tk 24 113 ?_ ?_ hH ?_
  rotate_left
  · (intro w hSw; (try dsimp only at hSw); go_simp; try with_reducible rfl)
  simp only [LY]
  refine U_tk 25 114 ?_ ?_ hH ?_
  rotate_left
  · (intro w hSw; (try dsimp only at hSw); go_simp; try with_reducible rfl)
  simp only [LY]
  refine U_tk 26 115 ?_ ?_ hH ?_
  rotate_left
  · (intro w hSw; (try dsimp only at hSw); go_simp; try with_reducible rfl)
  simp only [LY]
  refine U_tk 27 116 ?_ ?_ hH ?_
  rotate_left
  · (intro w hSw; (try dsimp only at hSw); go_simp; try with_reducible rfl)
  simp only [LY]
  clear hH
  refine U_endN (by kernel_rfl) ?_
  clear cy_0 cy_1 cy_2
  go_wp2_with fail
  with_reducible refine (r8_Rising _ hm7.toI (by omega) (by omega) HOK.out).mono ?_
  rintro e w15 ⟨_, rfl, hz15, hb⟩
  rw [HX.out] at hz15
  obtain ⟨bhz15, ohz15, khz15, rfl, hz151, hz152, -⟩ := hz15.open_ (by omega)
  replace hs := bStep hs hb
  replace Blchance := Blchance.mono hb
  replace Blconfidence := Blconfidence.mono hb
  replace Blls := Blls.mono hb
  replace Bly := Bly.mono hb
  replace h11 := h11.mono hb
  replace h14 := h14.mono hb
  replace hm7 := rowsJ ClC.kept _ _ _ hm7 hb
  replace ha8 := rowsJ PC.kept _ _ _ ha8 hb
  replace hb9 := rowsJ RC.kept _ _ _ hb9 hb
  replace hx10 := rowsJ PC.kept _ _ _ hx10 hb
  clear hb
  have q16b : ((X.length : Int) == (X.length : Int)) = true := beq_self_eq_true _
  have q16n : ((X.length : Int) != (X.length : Int)) = false := bne_self_eq_false _
  go_wp2
  go_loopw [126] (fun s126 wq => ∃ i : Nat, i ≤ X.length ∧ s126 = .int .i64 i ∧ Below w.heap.size w wq ∧ Bx wq (w.heap.size) 23 #[.int .i64 n1, .int .i64 d1] ∧ Bx wq (w.heap.size + 1) 23 #[.int .i64 n2, .int .i64 d2] ∧ Bx wq (w3.heap.size) 23 #[.int .i64 n1, .int .i64 d1, .int .i64 n2, .int .i64 d2] ∧ Bx wq (w10.heap.size) 29 #[.bool sh11, .slice ah11 nh11 ch11, .slice Ah11 Nh11 Ch11] ∧ PV wq (.agg #[.bool sh11, .slice ah11 nh11 ch11, .slice Ah11 Nh11 Ch11]) (best) ∧ RV wq (.agg #[.bool sh14, .slice ah14 nh14 ch14, .slice Ah14 Nh14 Ch14]) (best) ∧ Rows 2 66 ClC wq (.slice ahm7 L.length khm7) L ∧ Rows 3 29 PC wq (.slice aha8 C.length kha8) C ∧ Rows 3 36 RC wq (.slice ahb9 C.length khb9) C ∧ Rows 3 29 PC wq (.slice (some ⟨bhx10, ohx10, none⟩) X.length khx10) X ∧ Rows 3 36 RC wq (.slice (some ⟨bhz15, ohz15, none⟩) X.length khz15) X) (fun s126 _ => X.length - (intOf s126).toNat)
  case atStart => exact ⟨0, Nat.zero_le _, rfl, hs, Blchance, Blconfidence, Blls, Bly, h11, h14, hm7, ha8, hb9, hx10, hz15⟩
  case round =>
    clear Blchance Blconfidence Blls Bly h11 h14 hm7 ha8 hb9 hx10 hz15 hs
    obtain ⟨i, k_le, rfl, hs, Blchance, Blconfidence, Blls, Bly, h11, h14, hm7, ha8, hb9, hx10, hz15⟩ := hrel
    by_cases q17 : i < X.length
    · have q17d : ((i : Int) < (X.length : Int)) = True := eq_true (by omega)
      go_upto_region 19 with fail
      have BI18a : i < X.length := by omega
      have BI18b : ((i : Int) : Int) < (X.length : Int) := by omega
      obtain ⟨ge19a, ae19a, ne19a, ce19a, Ae19a, Ne19a, De19a, Ee190, Ee191, Ee192, he19a, le19⟩ := rowP_at hx10 (show i < X.length by omega)
      obtain ⟨ge20a, ae20a, ne20a, ce20a, Ae20a, Ne20a, De20a, Ee200, Ee201, Ee202, he20a, le20⟩ := rowR_at hz15 (show i < X.length by omega)
      refine U_region (S := fun w' => w'.cell? ⟨bhx10, ohx10 + i * 3, none⟩ = some (.bool ge19a) ∧ w'.cell? ⟨bhx10, ohx10 + i * 3 + 1, none⟩ = some (.slice ae19a ne19a ce19a) ∧ w'.cell? ⟨bhx10, ohx10 + i * 3 + 2, none⟩ = some (.slice Ae19a Ne19a De19a) ∧ w'.cell? ⟨bhz15, ohz15 + i * 3, none⟩ = some (.bool ge20a) ∧ w'.cell? ⟨bhz15, ohz15 + i * 3 + 1, none⟩ = some (.slice ae20a ne20a ce20a) ∧ w'.cell? ⟨bhz15, ohz15 + i * 3 + 2, none⟩ = some (.slice Ae20a Ne20a De20a)) (by kernel_rfl) 10 ?_
      refine AnyU.abs ?_
      intro w36 hW
      have hb : Below wr.heap.size wr w36 := by rw [hW]; exact bDrew _
      replace hs := bStep hs hb
      replace Blchance := Blchance.mono hb
      replace Blconfidence := Blconfidence.mono hb
      replace Blls := Blls.mono hb
      replace Bly := Bly.mono hb
      replace h11 := h11.mono hb
      replace h14 := h14.mono hb
      replace he19a := he19a.mono hb
      replace he20a := he20a.mono hb
      replace hm7 := rowsJ ClC.kept _ _ _ hm7 hb
      replace ha8 := rowsJ PC.kept _ _ _ ha8 hb
      replace hb9 := rowsJ RC.kept _ _ _ hb9 hb
      replace hx10 := rowsJ PC.kept _ _ _ hx10 hb
      replace hz15 := rowsJ RC.kept _ _ _ hz15 hb
      replace Ee190 := cellK Ee190 hb
      replace Ee191 := cellK Ee191 hb
      replace Ee192 := cellK Ee192 hb
      replace Ee200 := cellK Ee200 hb
      replace Ee201 := cellK Ee201 hb
      replace Ee202 := cellK Ee202 hb
      clear hb hW
      have hH := (show w36.cell? ⟨bhx10, ohx10 + i * 3, none⟩ = some (.bool ge19a) ∧ w36.cell? ⟨bhx10, ohx10 + i * 3 + 1, none⟩ = some (.slice ae19a ne19a ce19a) ∧ w36.cell? ⟨bhx10, ohx10 + i * 3 + 2, none⟩ = some (.slice Ae19a Ne19a De19a) ∧ w36.cell? ⟨bhz15, ohz15 + i * 3, none⟩ = some (.bool ge20a) ∧ w36.cell? ⟨bhz15, ohz15 + i * 3 + 1, none⟩ = some (.slice ae20a ne20a ce20a) ∧ w36.cell? ⟨bhz15, ohz15 + i * 3 + 2, none⟩ = some (.slice Ae20a Ne20a De20a) from ⟨Ee190, Ee191, Ee192, Ee200, Ee201, Ee202⟩)
      refine U_tk 0 129 ?_ ?_ hH ?_
      rotate_left
      · (intro w hSw; (try dsimp only at hSw); go_simp; try with_reducible rfl)
      simp only [LY]
      refine U_tk 1 130 ?_ ?_ hH ?_
      rotate_left
      · (intro w hSw; (try dsimp only at hSw); go_simp; try with_reducible rfl)
      simp only [LY]
      refine U_tk 2 131 ?_ ?_ hH ?_
      rotate_left
      · (intro w hSw; (try dsimp only at hSw); go_simp; try with_reducible rfl)
      simp only [LY]
      refine U_tk 3 132 ?_ ?_ hH ?_
      rotate_left
      · (intro w hSw; (try dsimp only at hSw); go_simp; try with_reducible rfl)
      simp only [LY]
      refine U_tk 4 133 ?_ ?_ hH ?_
      rotate_left
      · (intro w hSw; (try dsimp only at hSw); go_simp; try with_reducible rfl)
      simp only [LY]
      refine U_tk 5 134 ?_ ?_ hH ?_
      rotate_left
      · (intro w hSw; (try dsimp only at hSw); go_simp; try with_reducible rfl)
      simp only [LY]
      refine U_tk 6 135 ?_ ?_ hH ?_
      rotate_left
      · (intro w hSw; (try dsimp only at hSw); go_simp; try with_reducible rfl)
      simp only [LY]
      refine U_tk 7 136 ?_ ?_ hH ?_
      rotate_left
      · (intro w hSw; (try dsimp only at hSw); go_simp; try with_reducible rfl)
      simp only [LY]
      clear hH
      refine U_one (i := 8) (by kernel_rfl) rfl (fun K hK => ?_)
      go_simp
      (with_reducible refine (l1_Is _ _ _ _ he19a he20a (SzQ.fit (HXZ.out i (by omega)))).mono ?_)
      rintro e w37 ⟨rfl, hb⟩
      replace hs := bStep hs hb
      replace Blchance := Blchance.mono hb
      replace Blconfidence := Blconfidence.mono hb
      replace Blls := Blls.mono hb
      replace Bly := Bly.mono hb
      replace h11 := h11.mono hb
      replace h14 := h14.mono hb
      replace he19a := he19a.mono hb
      replace he20a := he20a.mono hb
      replace hm7 := rowsJ ClC.kept _ _ _ hm7 hb
      replace ha8 := rowsJ PC.kept _ _ _ ha8 hb
      replace hb9 := rowsJ RC.kept _ _ _ hb9 hb
      replace hx10 := rowsJ PC.kept _ _ _ hx10 hb
      replace hz15 := rowsJ RC.kept _ _ _ hz15 hb
      replace Ee190 := cellK Ee190 hb
      replace Ee191 := cellK Ee191 hb
      replace Ee192 := cellK Ee192 hb
      replace Ee200 := cellK Ee200 hb
      replace Ee201 := cellK Ee201 hb
      replace Ee202 := cellK Ee202 hb
      clear hb
      try go_wp2_with fail
      refine hK.out _ _ ⟨Ee190, Ee191, Ee192, Ee200, Ee201, Ee202⟩ (fun hH => ?_)
      clear hK K
      try simp only [LY]
      refine U_tk 9 138 ?_ ?_ hH ?_
      rotate_left
      · (intro w hSw; (try dsimp only at hSw); go_simp; try with_reducible rfl)
      simp only [LY]
      clear hH
      refine U_endN (by kernel_rfl) ?_
      clear Ee190 Ee191 Ee192 Ee200 Ee201 Ee202
      go_wp2
      go_roundw
      case rel => exact ⟨i + 1, by omega, by go_num, hs, Blchance, Blconfidence, Blls, Bly, h11, h14, hm7, ha8, hb9, hx10, hz15⟩
      all_goals first | (simp [intOf]; done) | (simp [intOf]; omega)
    · have q17d : ((i : Int) < (X.length : Int)) = False := eq_false (by omega)
      go_wp2
      go_loopw [142] (fun s142 wq => ∃ j : Nat, j ≤ L.length ∧ s142 = .int .i64 j ∧ Below w.heap.size w wq ∧ Bx wq (w.heap.size) 23 #[.int .i64 n1, .int .i64 d1] ∧ Bx wq (w.heap.size + 1) 23 #[.int .i64 n2, .int .i64 d2] ∧ Bx wq (w3.heap.size) 23 #[.int .i64 n1, .int .i64 d1, .int .i64 n2, .int .i64 d2] ∧ Bx wq (w10.heap.size) 29 #[.bool sh11, .slice ah11 nh11 ch11, .slice Ah11 Nh11 Ch11] ∧ PV wq (.agg #[.bool sh11, .slice ah11 nh11 ch11, .slice Ah11 Nh11 Ch11]) (best) ∧ RV wq (.agg #[.bool sh14, .slice ah14 nh14 ch14, .slice Ah14 Nh14 Ch14]) (best) ∧ Rows 2 66 ClC wq (.slice ahm7 L.length khm7) L ∧ Rows 3 29 PC wq (.slice aha8 C.length kha8) C ∧ Rows 3 36 RC wq (.slice ahb9 C.length khb9) C ∧ Rows 3 29 PC wq (.slice (some ⟨bhx10, ohx10, none⟩) X.length khx10) X ∧ Rows 3 36 RC wq (.slice (some ⟨bhz15, ohz15, none⟩) X.length khz15) X) (fun s142 _ => L.length - (intOf s142).toNat)
      case atStart => exact ⟨0, Nat.zero_le _, rfl, hs, Blchance, Blconfidence, Blls, Bly, h11, h14, hm7, ha8, hb9, hx10, hz15⟩
      case round =>
        clear Blchance Blconfidence Blls Bly h11 h14 hm7 ha8 hb9 hx10 hz15 hs
        obtain ⟨j, k_le, rfl, hs, Blchance, Blconfidence, Blls, Bly, h11, h14, hm7, ha8, hb9, hx10, hz15⟩ := hrel
        by_cases q18 : j < L.length
        · have q18d : ((j : Int) < (L.length : Int)) = True := eq_true (by omega)
          obtain ⟨bhl, ohl, khl, hv_, -, -⟩ := (HLI.out.mono ClC.kept hs).openI (by omega)
          obtain ⟨rfl, rfl⟩ := sliceE hv_
          have HLJ := Lib.hid (HLI.out.mono ClC.kept hs)
          obtain ⟨Ee190, Ee191, le19⟩ := rowClI_at HLJ.out (show j < L.length by omega)
          obtain ⟨te19, Hte19⟩ : ∃ z : Int, z = (clAt L j).1 := ⟨_, rfl⟩
          obtain ⟨fe19, Hfe19⟩ : ∃ z : Int, z = (clAt L j).2 := ⟨_, rfl⟩
          rw [← Hte19] at Ee190
          rw [← Hfe19] at Ee191
          replace Hte19 := Lib.hid Hte19.symm
          replace Hfe19 := Lib.hid Hfe19.symm
          by_cases q20 : 12 < te19
          · have q20d : ((12 : Int) < te19) = True := eq_true (by omega)
            go_wp2
            clear le19 HLJ Ee190 Ee191
            refine bodyPost.abs ?_
            intro w56 hW
            have hG : Gr [] wr w56 := by rw [hW]; exact (Gr.refl _ _).alloc
            have hbw : Below w.heap.size wr w56 := hG.below0 hs.size
            have hk : KeepD wr w56 := hG.keep True.intro
            have sz_w56 : w.heap.size ≤ wr.heap.size := hs.size
            have nchance_w56 : w.heap.size < wr.heap.size := Blchance.lt
            have nconfidence_w56 : w.heap.size + 1 < wr.heap.size := Blconfidence.lt
            have nls_w56 : w3.heap.size < wr.heap.size := Blls.lt
            have ny_w56 : w10.heap.size < wr.heap.size := Bly.lt
            have Blc : Bx w56 (wr.heap.size) 57 #[.int .i64 te19, .int .i64 fe19] := by rw [hW]; exact (Bx.new0 _ _ _)
            replace hs := hs.trans hbw
            replace hm7 := rowsJ ClC.kept _ _ _ hm7 (hG.below0 (Nat.le_refl _))
            replace ha8 := rowsJ PC.kept _ _ _ ha8 (hG.below0 (Nat.le_refl _))
            replace hb9 := rowsJ RC.kept _ _ _ hb9 (hG.below0 (Nat.le_refl _))
            replace hx10 := rowsJ PC.kept _ _ _ hx10 (hG.below0 (Nat.le_refl _))
            replace hz15 := rowsJ RC.kept _ _ _ hz15 (hG.below0 (Nat.le_refl _))
            replace Blchance := hG.bx Blchance notMem0
            replace Blconfidence := hG.bx Blconfidence notMem0
            replace Blls := hG.bx Blls notMem0
            replace Bly := hG.bx Bly notMem0
            replace h11 := h11.keep hk
            replace h14 := h14.keep hk
            clear hW hG hk hbw
            have hz_w56 : wr.heap.size < w56.heap.size := Blc.lt
            go_ret
            exact ⟨rfl, hs⟩
          · have q20d : ((12 : Int) < te19) = False := eq_false (by omega)
            go_upto_region 27 with fail
            clear le19 HLJ Ee190 Ee191
            refine Code.abs ?_
            intro w56 hW
            have hG : Gr [] wr w56 := by rw [hW]; exact (Gr.refl _ _).alloc
            have hbw : Below w.heap.size wr w56 := hG.below0 hs.size
            have hk : KeepD wr w56 := hG.keep True.intro
            have sz_w56 : w.heap.size ≤ wr.heap.size := hs.size
            have nchance_w56 : w.heap.size < wr.heap.size := Blchance.lt
            have nconfidence_w56 : w.heap.size + 1 < wr.heap.size := Blconfidence.lt
            have nls_w56 : w3.heap.size < wr.heap.size := Blls.lt
            have ny_w56 : w10.heap.size < wr.heap.size := Bly.lt
            have Blc : Bx w56 (wr.heap.size) 57 #[.int .i64 te19, .int .i64 fe19] := by rw [hW]; exact (Bx.new0 _ _ _)
            replace hs := hs.trans hbw
            replace hm7 := rowsJ ClC.kept _ _ _ hm7 (hG.below0 (Nat.le_refl _))
            replace ha8 := rowsJ PC.kept _ _ _ ha8 (hG.below0 (Nat.le_refl _))
            replace hb9 := rowsJ RC.kept _ _ _ hb9 (hG.below0 (Nat.le_refl _))
            replace hx10 := rowsJ PC.kept _ _ _ hx10 (hG.below0 (Nat.le_refl _))
            replace hz15 := rowsJ RC.kept _ _ _ hz15 (hG.below0 (Nat.le_refl _))
            replace Blchance := hG.bx Blchance notMem0
            replace Blconfidence := hG.bx Blconfidence notMem0
            replace Blls := hG.bx Blls notMem0
            replace Bly := hG.bx Bly notMem0
            replace h11 := h11.keep hk
            replace h14 := h14.keep hk
            clear hW hG hk hbw
            have hz_w56 : wr.heap.size < w56.heap.size := Blc.lt
            go_wp2
            go_roundw
            case rel => exact ⟨j + 1, by omega, by go_num, hs, Blchance, Blconfidence, Blls, Bly, h11, h14, hm7, ha8, hb9, hx10, hz15⟩
            all_goals first | (simp [intOf]; done) | (simp [intOf]; omega)
        · have q18d : ((j : Int) < (L.length : Int)) = False := eq_false (by omega)
          go_upto_region 28 with fail
          refine U_region (S := fun w' => w'.cell? ⟨w.heap.size, 0, none⟩ = some (.int .i64 n1) ∧ w'.cell? ⟨w.heap.size, 1, none⟩ = some (.int .i64 d1) ∧ w'.cell? ⟨w.heap.size + 1, 0, none⟩ = some (.int .i64 n2) ∧ w'.cell? ⟨w.heap.size + 1, 1, none⟩ = some (.int .i64 d2)) (by kernel_rfl) 11 ?_
          refine AnyU.abs ?_
          intro w56 hW
          have hb : Below wr.heap.size wr w56 := by rw [hW]; exact bDrew _
          replace hs := bStep hs hb
          replace Blchance := Blchance.mono hb
          replace Blconfidence := Blconfidence.mono hb
          replace Blls := Blls.mono hb
          replace Bly := Bly.mono hb
          replace h11 := h11.mono hb
          replace h14 := h14.mono hb
          replace hm7 := rowsJ ClC.kept _ _ _ hm7 hb
          replace ha8 := rowsJ PC.kept _ _ _ ha8 hb
          replace hb9 := rowsJ RC.kept _ _ _ hb9 hb
          replace hx10 := rowsJ PC.kept _ _ _ hx10 hb
          replace hz15 := rowsJ RC.kept _ _ _ hz15 hb
          clear hb hW
          have cchance_0 : w56.cell? ⟨w.heap.size, 0, none⟩ = some (.int .i64 n1) := Blchance.at 0 rfl
          have cchance_1 : w56.cell? ⟨w.heap.size, 1, none⟩ = some (.int .i64 d1) := Blchance.at 1 rfl
          have cconfidence_0 : w56.cell? ⟨w.heap.size + 1, 0, none⟩ = some (.int .i64 n2) := Blconfidence.at 0 rfl
          have cconfidence_1 : w56.cell? ⟨w.heap.size + 1, 1, none⟩ = some (.int .i64 d2) := Blconfidence.at 1 rfl
          have hH := (show w56.cell? ⟨w.heap.size, 0, none⟩ = some (.int .i64 n1) ∧ w56.cell? ⟨w.heap.size, 1, none⟩ = some (.int .i64 d1) ∧ w56.cell? ⟨w.heap.size + 1, 0, none⟩ = some (.int .i64 n2) ∧ w56.cell? ⟨w.heap.size + 1, 1, none⟩ = some (.int .i64 d2) from ⟨cchance_0, cchance_1, cconfidence_0, cconfidence_1⟩)
          refine U_tk 0 151 ?_ ?_ hH ?_
          rotate_left
          · (intro w hSw; (try dsimp only at hSw); go_simp; try with_reducible rfl)
          simp only [LY]
          refine U_tk 1 152 ?_ ?_ hH ?_
          rotate_left
          · (intro w hSw; (try dsimp only at hSw); go_simp; try with_reducible rfl)
          simp only [LY]
          refine U_tk 3 154 ?_ ?_ hH ?_
          rotate_left
          · (intro w hSw; (try dsimp only at hSw); go_simp; try with_reducible rfl)
          simp only [LY]
          clear hH
          refine U_one (i := 2) (by kernel_rfl) rfl (fun K hK => ?_)
          go_simp
          (with_reducible refine (l1_OfE _ O1.out HU1.out).mono ?_)
          rintro e w57 ⟨_, rfl, h19, hb⟩
          obtain ⟨sh19, ah19, nh19, ch19, Ah19, Nh19, Ch19, rfl⟩ := h19.shape
          replace hs := bStep hs hb
          replace Blchance := Blchance.mono hb
          replace Blconfidence := Blconfidence.mono hb
          replace Blls := Blls.mono hb
          replace Bly := Bly.mono hb
          replace h11 := h11.mono hb
          replace h14 := h14.mono hb
          replace hm7 := rowsJ ClC.kept _ _ _ hm7 hb
          replace ha8 := rowsJ PC.kept _ _ _ ha8 hb
          replace hb9 := rowsJ RC.kept _ _ _ hb9 hb
          replace hx10 := rowsJ PC.kept _ _ _ hx10 hb
          replace hz15 := rowsJ RC.kept _ _ _ hz15 hb
          replace cchance_0 := cellK cchance_0 hb
          replace cchance_1 := cellK cchance_1 hb
          replace cconfidence_0 := cellK cconfidence_0 hb
          replace cconfidence_1 := cellK cconfidence_1 hb
          clear hb
          try go_wp2_with fail
          refine hK.out _ _ ⟨cchance_0, cchance_1, cconfidence_0, cconfidence_1⟩ (fun hH => ?_)
          clear hK K
          try simp only [LY]
          clear hH
          refine U_one (i := 4) (by kernel_rfl) rfl (fun K hK => ?_)
          go_simp
          (with_reducible refine (l1_OfE _ O2.out HU2.out).mono ?_)
          rintro e w58 ⟨_, rfl, h20, hb⟩
          obtain ⟨sh20, ah20, nh20, ch20, Ah20, Nh20, Ch20, rfl⟩ := h20.shape
          replace hs := bStep hs hb
          replace Blchance := Blchance.mono hb
          replace Blconfidence := Blconfidence.mono hb
          replace Blls := Blls.mono hb
          replace Bly := Bly.mono hb
          replace h11 := h11.mono hb
          replace h14 := h14.mono hb
          replace h19 := h19.mono hb
          replace hm7 := rowsJ ClC.kept _ _ _ hm7 hb
          replace ha8 := rowsJ PC.kept _ _ _ ha8 hb
          replace hb9 := rowsJ RC.kept _ _ _ hb9 hb
          replace hx10 := rowsJ PC.kept _ _ _ hx10 hb
          replace hz15 := rowsJ RC.kept _ _ _ hz15 hb
          replace cchance_0 := cellK cchance_0 hb
          replace cchance_1 := cellK cchance_1 hb
          replace cconfidence_0 := cellK cconfidence_0 hb
          replace cconfidence_1 := cellK cconfidence_1 hb
          clear hb
          try go_wp2_with fail
          refine hK.out _ _ ⟨cchance_0, cchance_1, cconfidence_0, cconfidence_1⟩ (fun hH => ?_)
          clear hK K
          try simp only [LY]
          clear hH
          refine U_one (i := 5) (by kernel_rfl) rfl (fun K hK => ?_)
          go_simp
          (with_reducible refine (al_Reliable_all _ (HLI.out.mono ClC.kept hs) h19 sp h20 su HR1.out HR2.out).mono ?_)
          rintro e w59 ⟨rfl, hb⟩
          replace hs := bStep hs hb
          replace Blchance := Blchance.mono hb
          replace Blconfidence := Blconfidence.mono hb
          replace Blls := Blls.mono hb
          replace Bly := Bly.mono hb
          replace h11 := h11.mono hb
          replace h14 := h14.mono hb
          replace h19 := h19.mono hb
          replace h20 := h20.mono hb
          replace hm7 := rowsJ ClC.kept _ _ _ hm7 hb
          replace ha8 := rowsJ PC.kept _ _ _ ha8 hb
          replace hb9 := rowsJ RC.kept _ _ _ hb9 hb
          replace hx10 := rowsJ PC.kept _ _ _ hx10 hb
          replace hz15 := rowsJ RC.kept _ _ _ hz15 hb
          replace cchance_0 := cellK cchance_0 hb
          replace cchance_1 := cellK cchance_1 hb
          replace cconfidence_0 := cellK cconfidence_0 hb
          replace cconfidence_1 := cellK cconfidence_1 hb
          clear hb
          try go_wp2_with fail
          refine hK.out _ _ ⟨cchance_0, cchance_1, cconfidence_0, cconfidence_1⟩ (fun hH => ?_)
          clear hK K
          try simp only [LY]
          refine U_tk 6 150 ?_ ?_ hH ?_
          rotate_left
          · (intro w hSw; (try dsimp only at hSw); go_simp; try with_reducible rfl)
          simp only [LY]
          refine U_tk 7 157 ?_ ?_ hH ?_
          rotate_left
          · (intro w hSw; (try dsimp only at hSw); go_simp; try with_reducible rfl)
          simp only [LY]
          refine U_tk 8 158 ?_ ?_ hH ?_
          rotate_left
          · (intro w hSw; (try dsimp only at hSw); go_simp; try with_reducible rfl)
          simp only [LY]
          refine U_tk 9 21 ?_ ?_ hH ?_
          rotate_left
          · (intro w hSw; (try dsimp only at hSw); go_simp; try with_reducible rfl)
          simp only [LY]
          refine U_tk 10 22 ?_ ?_ hH ?_
          rotate_left
          · (intro w hSw; (try dsimp only at hSw); go_simp; try with_reducible rfl)
          simp only [LY]
          clear hH
          refine U_endN (by kernel_rfl) ?_
          clear cchance_0 cchance_1 cconfidence_0 cconfidence_1
          go_upto_region 29 with fail
          refine U_region (S := fun w' => w'.cell? ⟨w.heap.size, 0, none⟩ = some (.int .i64 n1) ∧ w'.cell? ⟨w.heap.size, 1, none⟩ = some (.int .i64 d1) ∧ w'.cell? ⟨w.heap.size + 1, 0, none⟩ = some (.int .i64 n2) ∧ w'.cell? ⟨w.heap.size + 1, 1, none⟩ = some (.int .i64 d2)) (by kernel_rfl) 11 ?_
          refine AnyU.abs ?_
          intro w60 hW
          have hb : Below w59.heap.size w59 w60 := by rw [hW]; exact bDrew _
          replace hs := bStep hs hb
          replace Blchance := Blchance.mono hb
          replace Blconfidence := Blconfidence.mono hb
          replace Blls := Blls.mono hb
          replace Bly := Bly.mono hb
          replace h11 := h11.mono hb
          replace h14 := h14.mono hb
          replace h19 := h19.mono hb
          replace h20 := h20.mono hb
          replace hm7 := rowsJ ClC.kept _ _ _ hm7 hb
          replace ha8 := rowsJ PC.kept _ _ _ ha8 hb
          replace hb9 := rowsJ RC.kept _ _ _ hb9 hb
          replace hx10 := rowsJ PC.kept _ _ _ hx10 hb
          replace hz15 := rowsJ RC.kept _ _ _ hz15 hb
          clear hb hW
          have cchance_0 : w60.cell? ⟨w.heap.size, 0, none⟩ = some (.int .i64 n1) := Blchance.at 0 rfl
          have cchance_1 : w60.cell? ⟨w.heap.size, 1, none⟩ = some (.int .i64 d1) := Blchance.at 1 rfl
          have cconfidence_0 : w60.cell? ⟨w.heap.size + 1, 0, none⟩ = some (.int .i64 n2) := Blconfidence.at 0 rfl
          have cconfidence_1 : w60.cell? ⟨w.heap.size + 1, 1, none⟩ = some (.int .i64 d2) := Blconfidence.at 1 rfl
          have hH := (show w60.cell? ⟨w.heap.size, 0, none⟩ = some (.int .i64 n1) ∧ w60.cell? ⟨w.heap.size, 1, none⟩ = some (.int .i64 d1) ∧ w60.cell? ⟨w.heap.size + 1, 0, none⟩ = some (.int .i64 n2) ∧ w60.cell? ⟨w.heap.size + 1, 1, none⟩ = some (.int .i64 d2) from ⟨cchance_0, cchance_1, cconfidence_0, cconfidence_1⟩)
          refine U_tk 0 160 ?_ ?_ hH ?_
          rotate_left
          · (intro w hSw; (try dsimp only at hSw); go_simp; try with_reducible rfl)
          simp only [LY]
          refine U_tk 1 161 ?_ ?_ hH ?_
          rotate_left
          · (intro w hSw; (try dsimp only at hSw); go_simp; try with_reducible rfl)
          simp only [LY]
          refine U_tk 3 163 ?_ ?_ hH ?_
          rotate_left
          · (intro w hSw; (try dsimp only at hSw); go_simp; try with_reducible rfl)
          simp only [LY]
          clear hH
          refine U_one (i := 2) (by kernel_rfl) rfl (fun K hK => ?_)
          go_simp
          (with_reducible refine (r1_OfE _ O1.out HU1.out).mono ?_)
          rintro e w61 ⟨_, rfl, h21, hb⟩
          obtain ⟨sh21, ah21, nh21, ch21, Ah21, Nh21, Ch21, rfl⟩ := h21.shape
          replace hs := bStep hs hb
          replace Blchance := Blchance.mono hb
          replace Blconfidence := Blconfidence.mono hb
          replace Blls := Blls.mono hb
          replace Bly := Bly.mono hb
          replace h11 := h11.mono hb
          replace h14 := h14.mono hb
          replace h19 := h19.mono hb
          replace h20 := h20.mono hb
          replace hm7 := rowsJ ClC.kept _ _ _ hm7 hb
          replace ha8 := rowsJ PC.kept _ _ _ ha8 hb
          replace hb9 := rowsJ RC.kept _ _ _ hb9 hb
          replace hx10 := rowsJ PC.kept _ _ _ hx10 hb
          replace hz15 := rowsJ RC.kept _ _ _ hz15 hb
          replace cchance_0 := cellK cchance_0 hb
          replace cchance_1 := cellK cchance_1 hb
          replace cconfidence_0 := cellK cconfidence_0 hb
          replace cconfidence_1 := cellK cconfidence_1 hb
          clear hb
          try go_wp2_with fail
          refine hK.out _ _ ⟨cchance_0, cchance_1, cconfidence_0, cconfidence_1⟩ (fun hH => ?_)
          clear hK K
          try simp only [LY]
          clear hH
          refine U_one (i := 4) (by kernel_rfl) rfl (fun K hK => ?_)
          go_simp
          (with_reducible refine (r1_OfE _ O2.out HU2.out).mono ?_)
          rintro e w62 ⟨_, rfl, h22, hb⟩
          obtain ⟨sh22, ah22, nh22, ch22, Ah22, Nh22, Ch22, rfl⟩ := h22.shape
          replace hs := bStep hs hb
          replace Blchance := Blchance.mono hb
          replace Blconfidence := Blconfidence.mono hb
          replace Blls := Blls.mono hb
          replace Bly := Bly.mono hb
          replace h11 := h11.mono hb
          replace h14 := h14.mono hb
          replace h19 := h19.mono hb
          replace h20 := h20.mono hb
          replace h21 := h21.mono hb
          replace hm7 := rowsJ ClC.kept _ _ _ hm7 hb
          replace ha8 := rowsJ PC.kept _ _ _ ha8 hb
          replace hb9 := rowsJ RC.kept _ _ _ hb9 hb
          replace hx10 := rowsJ PC.kept _ _ _ hx10 hb
          replace hz15 := rowsJ RC.kept _ _ _ hz15 hb
          replace cchance_0 := cellK cchance_0 hb
          replace cchance_1 := cellK cchance_1 hb
          replace cconfidence_0 := cellK cconfidence_0 hb
          replace cconfidence_1 := cellK cconfidence_1 hb
          clear hb
          try go_wp2_with fail
          refine hK.out _ _ ⟨cchance_0, cchance_1, cconfidence_0, cconfidence_1⟩ (fun hH => ?_)
          clear hK K
          try simp only [LY]
          clear hH
          refine U_one (i := 5) (by kernel_rfl) rfl (fun K hK => ?_)
          go_simp
          (with_reducible refine (r8_Reliable_all _ hm7.toI h21 sp h22 su HR1.out HR2.out).mono ?_)
          rintro e w63 ⟨rfl, hb⟩
          replace hs := bStep hs hb
          replace Blchance := Blchance.mono hb
          replace Blconfidence := Blconfidence.mono hb
          replace Blls := Blls.mono hb
          replace Bly := Bly.mono hb
          replace h11 := h11.mono hb
          replace h14 := h14.mono hb
          replace h19 := h19.mono hb
          replace h20 := h20.mono hb
          replace h21 := h21.mono hb
          replace h22 := h22.mono hb
          replace hm7 := rowsJ ClC.kept _ _ _ hm7 hb
          replace ha8 := rowsJ PC.kept _ _ _ ha8 hb
          replace hb9 := rowsJ RC.kept _ _ _ hb9 hb
          replace hx10 := rowsJ PC.kept _ _ _ hx10 hb
          replace hz15 := rowsJ RC.kept _ _ _ hz15 hb
          replace cchance_0 := cellK cchance_0 hb
          replace cchance_1 := cellK cchance_1 hb
          replace cconfidence_0 := cellK cconfidence_0 hb
          replace cconfidence_1 := cellK cconfidence_1 hb
          clear hb
          try go_wp2_with fail
          refine hK.out _ _ ⟨cchance_0, cchance_1, cconfidence_0, cconfidence_1⟩ (fun hH => ?_)
          clear hK K
          try simp only [LY]
          refine U_tk 6 159 ?_ ?_ hH ?_
          rotate_left
          · (intro w hSw; (try dsimp only at hSw); go_simp; try with_reducible rfl)
          simp only [LY]
          refine U_tk 7 166 ?_ ?_ hH ?_
          rotate_left
          · (intro w hSw; (try dsimp only at hSw); go_simp; try with_reducible rfl)
          simp only [LY]
          refine U_tk 8 167 ?_ ?_ hH ?_
          rotate_left
          · (intro w hSw; (try dsimp only at hSw); go_simp; try with_reducible rfl)
          simp only [LY]
          refine U_tk 9 23 ?_ ?_ hH ?_
          rotate_left
          · (intro w hSw; (try dsimp only at hSw); go_simp; try with_reducible rfl)
          simp only [LY]
          refine U_tk 10 24 ?_ ?_ hH ?_
          rotate_left
          · (intro w hSw; (try dsimp only at hSw); go_simp; try with_reducible rfl)
          simp only [LY]
          clear hH
          refine U_endN (by kernel_rfl) ?_
          clear cchance_0 cchance_1 cconfidence_0 cconfidence_1
          have q23b : (r1 == r1) = true := beq_self_eq_true _
          have q23n : (r1 != r1) = false := bne_self_eq_false _
          have q24b : (r2 == r2) = true := beq_self_eq_true _
          have q24n : (r2 != r2) = false := bne_self_eq_false _
          go_wp2
          go_ret
          exact ⟨rfl, hs⟩

theorem l8_AllowRises (v vc : Value) (L : List Cls) (c : List (Int × Int)) (n1 d1 n2 d2 : Int) (w : World) (hl : RowsI 2 ClC w v L) (hc : RowsI 2 FC w vc c) (hco : ∀ x ∈ c, DOk x) (o1 : DOk (n1, d1)) (o2 : DOk (n2, d2)) :
    Calls Tryz.prog 7 #[v, vc, .agg #[.int .i64 n1, .int .i64 d1], .agg #[.int .i64 n2, .int .i64 d2]] w (RetV w (.bool true)) := by
  by_cases h1 : 20 < L.length
  · exact l8_Rises_bad1 v vc L c n1 d1 n2 d2 w hl hc h1
  · by_cases h2 : 30 < c.length
    · exact l8_Rises_bad2 v vc L c n1 d1 n2 d2 w hl hc (by omega) h2
    · by_cases hS : c.all smF24 = true
      · by_cases hT : [(n1, d1), (n2, d2)].all smF8 = true
        · have t1 : smF8 (n1, d1) = true := List.all_eq_true.1 hT _ (by simp)
          have t2 : smF8 (n2, d2) = true := List.all_eq_true.1 hT _ (by simp)
          have sp := smF8_sz t1
          have su := smF8_sz t2
          by_cases hW : clE L = 0
          · obtain ⟨l1, l16, hok⟩ := clE_zero hW
            have hT2 : okT L := okT_of8 hok
            have hlen := (pav_fits hT2).1
            by_cases hC : (c.map fr8).length = L.length
            · have hz := fr8_sz hS
              have s1 := mfK_sz hok hC hz L.length (Nat.le_refl _)
              rw [mfK_all (by omega)] at s1
              exact l8_Rises_ok v vc L c n1 d1 n2 d2 w hl hc (by omega) (by omega) hS hT hco o1 o2 _ rfl _ _ rfl rfl sp su _ _ rfl rfl hW hok l1 l16 _ rfl (outR_sz8 hok l16) (by omega) (by omega) (by omega) (by omega) hz _ rfl (s1.mono (by omega))
            · exact l8_Rises_siz v vc L c n1 d1 n2 d2 w hl hc (by omega) (by omega) hS hT hco o1 o2 _ rfl _ _ rfl rfl sp su _ _ rfl rfl hW hok l1 l16 _ rfl (outR_sz8 hok l16) (by omega) (by omega) hC
          · exact l8_Rises_err v vc L c n1 d1 n2 d2 w hl hc (by omega) (by omega) hS hT hco o1 o2 _ rfl _ _ rfl rfl sp su _ _ rfl rfl _ rfl hW
        · exact l8_Rises_bad4 v vc L c n1 d1 n2 d2 w hl hc (by omega) (by omega) hS hT
      · exact l8_Rises_bad3 v vc L c n1 d1 n2 d2 w hl hc (by omega) (by omega) hS
end Go.Proofs.YtmnipggjjcmjkaaGreat
