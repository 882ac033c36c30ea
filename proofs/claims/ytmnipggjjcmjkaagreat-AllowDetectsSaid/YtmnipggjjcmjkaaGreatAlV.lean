/-
  Law 08: AllowDetects.
-/
import Derived.Test.YtmnipggjjcmjkaaGreatAlU
import Derived.Test.YtmnipggjjcmjkaaGreatAlAw
import Derived.Test.YtmnipggjjcmjkaaGreatPkLaw
set_option linter.unusedSimpArgs false
set_option linter.unusedVariables false
namespace Go.Proofs.YtmnipggjjcmjkaaGreat
open Go.RowKit Dg
attribute [local go_sem ↓] Go.wp_at_zero Go.wp_at_succ

theorem rowsFt1 {w : World} {g : Nat} {T : TypeId} {n1 d1 : Int} (h : Bx w g T #[.int .i64 n1, .int .i64 d1]) : RowsI 2 FC w (.slice (some ⟨g, 0, none⟩) 1 1) [(n1, d1)] := by
  refine ⟨_, 1, rfl, Nat.le_refl _, by decide, (fun e => by cases e), fun i x hx => ?_⟩
  match i, hx with
  | 0, hx =>
    cases hx
    refine ⟨g, 0, [.int .i64 n1, .int .i64 d1], rfl, rfl, fun j u hu => ?_, rfl⟩
    match j, hu with
    | 0, hu => cases hu; exact h.at 0 rfl
    | 1, hu => cases hu; exact h.at 1 rfl

theorem l1_OfD {n d : Int} {q : Rat} (w : World) (o : DOk (n, d)) (hq : fracQ n d = q) : Calls Tryz.prog 13 #[.agg #[.int .i64 n, .int .i64 d]] w (RetP w q) := l1_Of_ w o hq
theorem r1_OfD {n d : Int} {q : Rat} (w : World) (o : DOk (n, d)) (hq : fracQ n d = q) : Calls Tryz.prog 15 #[.agg #[.int .i64 n, .int .i64 d]] w (RetQ w q) := r1_Of_ w o hq

set_option maxRecDepth 100000 in
set_option maxHeartbeats 16000000 in
theorem l8_Detects_bad1 (n f n1 d1 k : Int) (w : World) (hS : ¬ ([(n1, d1)].all smF8 = true)) :
    Calls Tryz.prog 5 #[.agg #[.int .i64 n, .int .i64 f], .agg #[.int .i64 n1, .int .i64 d1], .int .i64 k] w (RetV w (.bool true)) := by
  have hs := Below.refl w.heap.size w
  have HS := Lib.hid hS
  clear hS
  go_enter Tryz.func5, Tryz.ntmps5
  go_wp2_with fail
  refine Calls.abs ?_
  intro w1 hW
  have hG : Gr [] w w1 := by rw [hW]; exact (Gr.refl _ _).alloc.alloc
  have hbw : Below w.heap.size w w1 := hG.below0 hs.size
  have hk : KeepD w w1 := hG.keep True.intro
  have sz_w1 : w.heap.size ≤ w.heap.size := hs.size
  have Blc : Bx w1 (w.heap.size) 57 #[.int .i64 n, .int .i64 f] := by rw [hW]; exact ((Bx.new0 _ _ _).alloc _)
  have Blconfidence : Bx w1 (w.heap.size + 1) 23 #[.int .i64 n1, .int .i64 d1] := by rw [hW]; exact (Bx.new0 _ _ _)
  replace hs := hs.trans hbw
  clear hW hG hk hbw
  have hz_w1 : w.heap.size + 1 < w1.heap.size := Blconfidence.lt
  with_reducible refine (l8_awake _).mono ?_
  rintro e w2 ⟨rfl, hb⟩
  replace hs := bStep hs hb
  replace Blc := Blc.mono hb
  replace Blconfidence := Blconfidence.mono hb
  clear hb
  have cconfidence_0 : w2.cell? ⟨w.heap.size + 1, 0, none⟩ = some (.int .i64 n1) := Blconfidence.at 0 rfl
  have cconfidence_1 : w2.cell? ⟨w.heap.size + 1, 1, none⟩ = some (.int .i64 d1) := Blconfidence.at 1 rfl
  have Lconfidence : w.heap.size + 1 < w2.heap.size := Blconfidence.lt
  have Lconfidence_0 : w.heap.size < w2.heap.size := by omega
  go_wp2_with fail
  clear cconfidence_0 cconfidence_1 Lconfidence Lconfidence_0
  refine Calls.abs ?_
  intro w3 hW
  have hG : Gr [] w2 w3 := by rw [hW]; exact (Gr.refl _ _).alloc
  have hbw : Below w.heap.size w2 w3 := hG.below0 hs.size
  have hk : KeepD w2 w3 := hG.keep True.intro
  have sz_w3 : w.heap.size ≤ w2.heap.size := hs.size
  have nc_w3 : w.heap.size < w2.heap.size := Blc.lt
  have nconfidence_w3 : w.heap.size + 1 < w2.heap.size := Blconfidence.lt
  have Blls : Bx w3 (w2.heap.size) 23 #[.int .i64 n1, .int .i64 d1] := by rw [hW]; exact (Bx.new0 _ _ _)
  replace hs := hs.trans hbw
  replace Blc := hG.bx Blc notMem0
  replace Blconfidence := hG.bx Blconfidence notMem0
  clear hW hG hk hbw
  have hz_w3 : w2.heap.size < w3.heap.size := Blls.lt
  with_reducible refine (l8_small8 _ [(n1, d1)] _ (rowsFt1 Blls)).mono ?_
  rintro e w4 ⟨rfl, hb⟩
  replace hs := bStep hs hb
  replace Blc := Blc.mono hb
  replace Blconfidence := Blconfidence.mono hb
  replace Blls := Blls.mono hb
  clear hb
  obtain ⟨b1, Hb1⟩ : ∃ b : Bool, b = [(n1, d1)].all smF8 := ⟨_, rfl⟩
  rw [← Hb1]
  replace Hb1 := Lib.hid Hb1
  have q2 : ¬ ([(n1, d1)].all smF8 = true) := HS.out
  obtain rfl : b1 = false := by rw [Hb1.out]; simpa using q2
  have q2H := Lib.hid q2
  clear q2
  go_wp2_with fail
  with_reducible refine (l8_awake _).mono ?_
  rintro e w5 ⟨rfl, hb⟩
  replace hs := bStep hs hb
  replace Blc := Blc.mono hb
  replace Blconfidence := Blconfidence.mono hb
  replace Blls := Blls.mono hb
  clear hb
  go_wp2
  go_ret
  exact ⟨rfl, hs⟩

set_option maxRecDepth 100000 in
set_option maxHeartbeats 16000000 in
theorem l8_Detects_bad2 (n f n1 d1 k : Int) (w : World) (hS : [(n1, d1)].all smF8 = true) (hn : 12 < n) (hn2 : n ≤ 64) :
    Calls Tryz.prog 5 #[.agg #[.int .i64 n, .int .i64 f], .agg #[.int .i64 n1, .int .i64 d1], .int .i64 k] w (RetV w (.bool true)) := by
  have hs := Below.refl w.heap.size w
  have HS := Lib.hid hS
  clear hS
  go_enter Tryz.func5, Tryz.ntmps5
  go_wp2_with fail
  refine Calls.abs ?_
  intro w1 hW
  have hG : Gr [] w w1 := by rw [hW]; exact (Gr.refl _ _).alloc.alloc
  have hbw : Below w.heap.size w w1 := hG.below0 hs.size
  have hk : KeepD w w1 := hG.keep True.intro
  have sz_w1 : w.heap.size ≤ w.heap.size := hs.size
  have Blc : Bx w1 (w.heap.size) 57 #[.int .i64 n, .int .i64 f] := by rw [hW]; exact ((Bx.new0 _ _ _).alloc _)
  have Blconfidence : Bx w1 (w.heap.size + 1) 23 #[.int .i64 n1, .int .i64 d1] := by rw [hW]; exact (Bx.new0 _ _ _)
  replace hs := hs.trans hbw
  clear hW hG hk hbw
  have hz_w1 : w.heap.size + 1 < w1.heap.size := Blconfidence.lt
  with_reducible refine (l8_awake _).mono ?_
  rintro e w2 ⟨rfl, hb⟩
  replace hs := bStep hs hb
  replace Blc := Blc.mono hb
  replace Blconfidence := Blconfidence.mono hb
  clear hb
  have cconfidence_0 : w2.cell? ⟨w.heap.size + 1, 0, none⟩ = some (.int .i64 n1) := Blconfidence.at 0 rfl
  have cconfidence_1 : w2.cell? ⟨w.heap.size + 1, 1, none⟩ = some (.int .i64 d1) := Blconfidence.at 1 rfl
  have Lconfidence : w.heap.size + 1 < w2.heap.size := Blconfidence.lt
  have Lconfidence_0 : w.heap.size < w2.heap.size := by omega
  go_wp2_with fail
  clear cconfidence_0 cconfidence_1 Lconfidence Lconfidence_0
  refine Calls.abs ?_
  intro w3 hW
  have hG : Gr [] w2 w3 := by rw [hW]; exact (Gr.refl _ _).alloc
  have hbw : Below w.heap.size w2 w3 := hG.below0 hs.size
  have hk : KeepD w2 w3 := hG.keep True.intro
  have sz_w3 : w.heap.size ≤ w2.heap.size := hs.size
  have nc_w3 : w.heap.size < w2.heap.size := Blc.lt
  have nconfidence_w3 : w.heap.size + 1 < w2.heap.size := Blconfidence.lt
  have Blls : Bx w3 (w2.heap.size) 23 #[.int .i64 n1, .int .i64 d1] := by rw [hW]; exact (Bx.new0 _ _ _)
  replace hs := hs.trans hbw
  replace Blc := hG.bx Blc notMem0
  replace Blconfidence := hG.bx Blconfidence notMem0
  clear hW hG hk hbw
  have hz_w3 : w2.heap.size < w3.heap.size := Blls.lt
  with_reducible refine (l8_small8 _ [(n1, d1)] _ (rowsFt1 Blls)).mono ?_
  rintro e w4 ⟨rfl, hb⟩
  replace hs := bStep hs hb
  replace Blc := Blc.mono hb
  replace Blconfidence := Blconfidence.mono hb
  replace Blls := Blls.mono hb
  clear hb
  obtain ⟨b1, Hb1⟩ : ∃ b : Bool, b = [(n1, d1)].all smF8 := ⟨_, rfl⟩
  rw [← Hb1]
  replace Hb1 := Lib.hid Hb1
  have q2 : [(n1, d1)].all smF8 = true := HS.out
  obtain rfl : b1 = true := by rw [Hb1.out]; exact q2
  have q2H := Lib.hid q2
  clear q2
  have q3 : 12 < n := (by omega)
  have q3d : ((12 : Int) < n) = True := eq_true (by omega)
  have q4 : n ≤ 64 := (by omega)
  have q4d : (n ≤ 64) = True := eq_true (by omega)
  have cc_0 : w4.cell? ⟨w.heap.size, 0, none⟩ = some (.int .i64 n) := Blc.at 0 rfl
  have cc_1 : w4.cell? ⟨w.heap.size, 1, none⟩ = some (.int .i64 f) := Blc.at 1 rfl
  have Lc : w.heap.size < w4.heap.size := Blc.lt
  go_wp2_with fail
  clear cc_0 cc_1 Lc
  with_reducible refine (l8_awake _).mono ?_
  rintro e w5 ⟨rfl, hb⟩
  replace hs := bStep hs hb
  replace Blc := Blc.mono hb
  replace Blconfidence := Blconfidence.mono hb
  replace Blls := Blls.mono hb
  clear hb
  go_wp2
  go_ret
  exact ⟨rfl, hs⟩

set_option maxRecDepth 100000 in
set_option maxHeartbeats 16000000 in
theorem l8_Detects_ok (n f n1 d1 k : Int) (w : World) (kk : Int) (hK1 : kk ≤ 6) (hK2 : kk ≤ k) (hK3 : 6 ≤ kk ∨ k ≤ kk) (hS : [(n1, d1)].all smF8 = true) (hn : n ≤ 12 ∨ 64 < n) (o1 : DOk (n1, d1)) (u : Rat) (hu : fracQ n1 d1 = u) (su : SzQ 1 u) (e : Int) (he : dtE n f u = e) :
    Calls Tryz.prog 5 #[.agg #[.int .i64 n, .int .i64 f], .agg #[.int .i64 n1, .int .i64 d1], .int .i64 k] w (RetV w (.bool true)) := by
  have hs := Below.refl w.heap.size w
  have HS := Lib.hid hS
  have O1 := Lib.hid o1
  have HU := Lib.hid hu
  have HE := Lib.hid he
  clear hS o1 hu he
  go_enter Tryz.func5, Tryz.ntmps5
  go_wp2_with fail
  refine Calls.abs ?_
  intro w1 hW
  have hG : Gr [] w w1 := by rw [hW]; exact (Gr.refl _ _).alloc.alloc
  have hbw : Below w.heap.size w w1 := hG.below0 hs.size
  have hk : KeepD w w1 := hG.keep True.intro
  have sz_w1 : w.heap.size ≤ w.heap.size := hs.size
  have Blc : Bx w1 (w.heap.size) 57 #[.int .i64 n, .int .i64 f] := by rw [hW]; exact ((Bx.new0 _ _ _).alloc _)
  have Blconfidence : Bx w1 (w.heap.size + 1) 23 #[.int .i64 n1, .int .i64 d1] := by rw [hW]; exact (Bx.new0 _ _ _)
  replace hs := hs.trans hbw
  clear hW hG hk hbw
  have hz_w1 : w.heap.size + 1 < w1.heap.size := Blconfidence.lt
  with_reducible refine (l8_awake _).mono ?_
  rintro e w2 ⟨rfl, hb⟩
  replace hs := bStep hs hb
  replace Blc := Blc.mono hb
  replace Blconfidence := Blconfidence.mono hb
  clear hb
  have cconfidence_0 : w2.cell? ⟨w.heap.size + 1, 0, none⟩ = some (.int .i64 n1) := Blconfidence.at 0 rfl
  have cconfidence_1 : w2.cell? ⟨w.heap.size + 1, 1, none⟩ = some (.int .i64 d1) := Blconfidence.at 1 rfl
  have Lconfidence : w.heap.size + 1 < w2.heap.size := Blconfidence.lt
  have Lconfidence_0 : w.heap.size < w2.heap.size := by omega
  go_wp2_with fail
  clear cconfidence_0 cconfidence_1 Lconfidence Lconfidence_0
  refine Calls.abs ?_
  intro w3 hW
  have hG : Gr [] w2 w3 := by rw [hW]; exact (Gr.refl _ _).alloc
  have hbw : Below w.heap.size w2 w3 := hG.below0 hs.size
  have hk : KeepD w2 w3 := hG.keep True.intro
  have sz_w3 : w.heap.size ≤ w2.heap.size := hs.size
  have nc_w3 : w.heap.size < w2.heap.size := Blc.lt
  have nconfidence_w3 : w.heap.size + 1 < w2.heap.size := Blconfidence.lt
  have Blls : Bx w3 (w2.heap.size) 23 #[.int .i64 n1, .int .i64 d1] := by rw [hW]; exact (Bx.new0 _ _ _)
  replace hs := hs.trans hbw
  replace Blc := hG.bx Blc notMem0
  replace Blconfidence := hG.bx Blconfidence notMem0
  clear hW hG hk hbw
  have hz_w3 : w2.heap.size < w3.heap.size := Blls.lt
  with_reducible refine (l8_small8 _ [(n1, d1)] _ (rowsFt1 Blls)).mono ?_
  rintro e w4 ⟨rfl, hb⟩
  replace hs := bStep hs hb
  replace Blc := Blc.mono hb
  replace Blconfidence := Blconfidence.mono hb
  replace Blls := Blls.mono hb
  clear hb
  obtain ⟨b1, Hb1⟩ : ∃ b : Bool, b = [(n1, d1)].all smF8 := ⟨_, rfl⟩
  rw [← Hb1]
  replace Hb1 := Lib.hid Hb1
  have q2 : [(n1, d1)].all smF8 = true := HS.out
  obtain rfl : b1 = true := by rw [Hb1.out]; exact q2
  have q2H := Lib.hid q2
  clear q2
  by_cases q3 : 12 < n
  · have q3d : ((12 : Int) < n) = True := eq_true (by omega)
    have q4 : ¬ (n ≤ 64) := (by omega)
    have q4d : (n ≤ 64) = False := eq_false (by omega)
    have cc_0 : w4.cell? ⟨w.heap.size, 0, none⟩ = some (.int .i64 n) := Blc.at 0 rfl
    have cc_1 : w4.cell? ⟨w.heap.size, 1, none⟩ = some (.int .i64 f) := Blc.at 1 rfl
    have Lc : w.heap.size < w4.heap.size := Blc.lt
    go_upto_if 31 with (fail)
    clear cc_0 cc_1 Lc
    go_cut [2] (fun kv wz => kv = .int .i64 kk ∧ Below w.heap.size w wz ∧ Bx wz (w.heap.size) 57 #[.int .i64 n, .int .i64 f] ∧ Bx wz (w.heap.size + 1) 23 #[.int .i64 n1, .int .i64 d1] ∧ Bx wz (w2.heap.size) 23 #[.int .i64 n1, .int .i64 d1])
    case first => as_aux_lemma =>
      by_cases q5 : 6 < k
      · have q5d : ((6 : Int) < k) = True := eq_true (by omega)
        try simp only [q5b, q5n]
        go_wp2_with fail
        go_meet
        exact ⟨congrArg _ (by omega), hs, Blc, Blconfidence, Blls⟩
      · have q5d : ((6 : Int) < k) = False := eq_false (by omega)
        try simp only [q5b, q5n]
        go_wp2_with fail
        go_meet
        exact ⟨congrArg _ (by omega), hs, Blc, Blconfidence, Blls⟩
    case rest =>
      clear hs Blc Blconfidence Blls
      obtain ⟨rfl, hs, Blc, Blconfidence, Blls⟩ := hcut
      go_upto_region 5 with fail
      go_cut [7, 8] (fun kv0 kx0 wz => ∃ gx sh6a ah6a nh6a ch6a Ah6a Nh6a Ch6a sh6b ah6b nh6b ch6b Ah6b Nh6b Ch6b, kv0 = .pointer (some ⟨gx, 0, none⟩) ∧ kx0 = .int .i64 e ∧ w.heap.size ≤ gx ∧ gx ≠ w.heap.size ∧ gx ≠ (w.heap.size + 1) ∧ gx ≠ w2.heap.size ∧ Bx wz gx 59 #[.bool sh6a, .slice ah6a nh6a ch6a, .slice Ah6a Nh6a Ch6a, .bool sh6b, .slice ah6b nh6b ch6b, .slice Ah6b Nh6b Ch6b] ∧ Below w.heap.size w wz ∧ Bx wz (w.heap.size) 57 #[.int .i64 n, .int .i64 f] ∧ Bx wz (w.heap.size + 1) 23 #[.int .i64 n1, .int .i64 d1] ∧ Bx wz (w2.heap.size) 23 #[.int .i64 n1, .int .i64 d1] ∧ PV wz (.agg #[.bool sh6a, .slice ah6a nh6a ch6a, .slice Ah6a Nh6a Ch6a]) (dtLo n f u kk) ∧ PV wz (.agg #[.bool sh6b, .slice ah6b nh6b ch6b, .slice Ah6b Nh6b Ch6b]) (dtHi n f u kk))
      case first => as_aux_lemma =>
        refine U_region (S := fun w' => w'.cell? ⟨w.heap.size, 0, none⟩ = some (.int .i64 n) ∧ w'.cell? ⟨w.heap.size, 1, none⟩ = some (.int .i64 f) ∧ w'.cell? ⟨w.heap.size + 1, 0, none⟩ = some (.int .i64 n1) ∧ w'.cell? ⟨w.heap.size + 1, 1, none⟩ = some (.int .i64 d1)) (by kernel_rfl) 10 ?_
        refine AnyU.abs ?_
        intro w5 hW
        have hb : Below wc.heap.size wc w5 := by rw [hW]; exact bDrew _
        replace hs := bStep hs hb
        replace Blc := Blc.mono hb
        replace Blconfidence := Blconfidence.mono hb
        replace Blls := Blls.mono hb
        clear hb hW
        have cc_0 : w5.cell? ⟨w.heap.size, 0, none⟩ = some (.int .i64 n) := Blc.at 0 rfl
        have cc_1 : w5.cell? ⟨w.heap.size, 1, none⟩ = some (.int .i64 f) := Blc.at 1 rfl
        have cconfidence_0 : w5.cell? ⟨w.heap.size + 1, 0, none⟩ = some (.int .i64 n1) := Blconfidence.at 0 rfl
        have cconfidence_1 : w5.cell? ⟨w.heap.size + 1, 1, none⟩ = some (.int .i64 d1) := Blconfidence.at 1 rfl
        have hH := (show w5.cell? ⟨w.heap.size, 0, none⟩ = some (.int .i64 n) ∧ w5.cell? ⟨w.heap.size, 1, none⟩ = some (.int .i64 f) ∧ w5.cell? ⟨w.heap.size + 1, 0, none⟩ = some (.int .i64 n1) ∧ w5.cell? ⟨w.heap.size + 1, 1, none⟩ = some (.int .i64 d1) from ⟨cc_0, cc_1, cconfidence_0, cconfidence_1⟩)
        refine U_take (i := 0) (v := ?_) rfl (by kernel_rfl) (by kernel_rfl) (by kernel_rfl) (by kernel_rfl) (fun _ _ _ h => h) (Or.inl ⟨by rfl, ?_⟩) hH ?_
        rotate_left
        · intro w hSw
          try dsimp only at hSw
          go_simp
          try with_reducible rfl
        try simp only [Act.put, List.setIfInBounds_toArray, List.set_cons_zero, List.set_cons_succ]
        refine U_take (i := 1) (v := ?_) rfl (by kernel_rfl) (by kernel_rfl) (by kernel_rfl) (by kernel_rfl) (fun _ _ _ h => h) (Or.inl ⟨by rfl, ?_⟩) hH ?_
        rotate_left
        · intro w hSw
          try dsimp only at hSw
          go_simp
          try with_reducible rfl
        try simp only [Act.put, List.setIfInBounds_toArray, List.set_cons_zero, List.set_cons_succ]
        refine U_take (i := 3) (v := ?_) rfl (by kernel_rfl) (by kernel_rfl) (by kernel_rfl) (by kernel_rfl) (fun _ _ _ h => h) (Or.inl ⟨by rfl, ?_⟩) hH ?_
        rotate_left
        · intro w hSw
          try dsimp only at hSw
          go_simp
          try with_reducible rfl
        try simp only [Act.put, List.setIfInBounds_toArray, List.set_cons_zero, List.set_cons_succ]
        refine U_two (i := 2) (j := 8) (by kernel_rfl) rfl rfl (fun K hK => ?_) (fun K hK => ?_)
        · clear hH
          go_simp
          (with_reducible refine (l1_OfD _ O1.out HU.out).mono ?_)
          rintro e w6 ⟨_, rfl, h5, hb⟩
          obtain ⟨sh5, ah5, nh5, ch5, Ah5, Nh5, Ch5, rfl⟩ := h5.shape
          replace hs := bStep hs hb
          replace Blc := Blc.mono hb
          replace Blconfidence := Blconfidence.mono hb
          replace Blls := Blls.mono hb
          replace cc_0 := cellK cc_0 hb
          replace cc_1 := cellK cc_1 hb
          replace cconfidence_0 := cellK cconfidence_0 hb
          replace cconfidence_1 := cellK cconfidence_1 hb
          clear hb
          try go_wp2_with fail
          refine hK.out _ _ ⟨cc_0, cc_1, cconfidence_0, cconfidence_1⟩ (fun hH => ?_)
          clear hK K
          try simp only [Act.put, List.setIfInBounds_toArray, List.set_cons_zero, List.set_cons_succ]
          refine U_two (i := 4) (j := 8) (by kernel_rfl) rfl rfl (fun K hK => ?_) (fun K hK => ?_)
          · clear hH
            go_simp
            (with_reducible refine (al_Det_all (k := kk) _ h5 su (by omega) rfl rfl HE.out).mono ?_)
            rintro e w7 ⟨_, _, rfl, h6, rfl, hb⟩
            obtain ⟨sh6a, ah6a, nh6a, ch6a, Ah6a, Nh6a, Ch6a, sh6b, ah6b, nh6b, ch6b, Ah6b, Nh6b, Ch6b, rfl, h6a, h6b⟩ := h6.shape
            replace hs := bStep hs hb
            replace Blc := Blc.mono hb
            replace Blconfidence := Blconfidence.mono hb
            replace Blls := Blls.mono hb
            replace h5 := h5.mono hb
            replace cc_0 := cellK cc_0 hb
            replace cc_1 := cellK cc_1 hb
            replace cconfidence_0 := cellK cconfidence_0 hb
            replace cconfidence_1 := cellK cconfidence_1 hb
            clear hb
            try go_wp2_with fail
            refine hK.out _ _ ⟨cc_0, cc_1, cconfidence_0, cconfidence_1⟩ (fun hH => ?_)
            clear hK K
            try simp only [Act.put, List.setIfInBounds_toArray, List.set_cons_zero, List.set_cons_succ]
            refine U_take (i := 5) (v := ?_) rfl (by kernel_rfl) (by kernel_rfl) (by kernel_rfl) (by kernel_rfl) (fun _ _ _ h => h) (Or.inl ⟨by rfl, ?_⟩) hH ?_
            rotate_left
            · intro w hSw
              try dsimp only at hSw
              go_simp
              try with_reducible rfl
            try simp only [Act.put, List.setIfInBounds_toArray, List.set_cons_zero, List.set_cons_succ]
            refine U_take (i := 6) (v := ?_) rfl (by kernel_rfl) (by kernel_rfl) (by kernel_rfl) (by kernel_rfl) (fun _ _ _ h => h) (Or.inl ⟨by rfl, ?_⟩) hH ?_
            rotate_left
            · intro w hSw
              try dsimp only at hSw
              go_simp
              try with_reducible rfl
            try simp only [Act.put, List.setIfInBounds_toArray, List.set_cons_zero, List.set_cons_succ]
            refine U_take (i := 7) (v := ?_) rfl (by kernel_rfl) (by kernel_rfl) (by kernel_rfl) (by kernel_rfl) (fun _ _ _ h => h) (Or.inl ⟨by rfl, ?_⟩) hH ?_
            rotate_left
            · intro w hSw
              try dsimp only at hSw
              go_simp
              try with_reducible rfl
            try simp only [Act.put, List.setIfInBounds_toArray, List.set_cons_zero, List.set_cons_succ]
            clear hH
            refine U_one (i := 8) (by kernel_rfl) rfl (fun K hK => ?_)
            go_simp
            generalize hWn : (w7.alloc (.cells #[.bool false, .slice none 0 0, .slice none 0 0, .bool false, .slice none 0 0, .slice none 0 0] 59)) = w8
            have hb : Below w7.heap.size w7 w8 := by rw [← hWn]; exact (Below.refl _ _).alloc (Nat.le_refl _) _
            have Blx : Bx w8 (w7.heap.size) 59 #[.bool false, .slice none 0 0, .slice none 0 0, .bool false, .slice none 0 0, .slice none 0 0] := by rw [← hWn]; exact Bx.new _ _ _
            have nc_x : w.heap.size ≠ w7.heap.size := by have := Blc.lt; omega
            have nconfidence_x : w.heap.size + 1 ≠ w7.heap.size := by have := Blconfidence.lt; omega
            have nls_x : w2.heap.size ≠ w7.heap.size := by have := Blls.lt; omega
            have sz_x : w.heap.size ≤ w7.heap.size := hs.size
            replace hs := bStep hs hb
            replace Blc := Blc.mono hb
            replace Blconfidence := Blconfidence.mono hb
            replace Blls := Blls.mono hb
            replace h5 := h5.mono hb
            replace h6a := h6a.mono hb
            replace h6b := h6b.mono hb
            replace cc_0 := cellK cc_0 hb
            replace cc_1 := cellK cc_1 hb
            replace cconfidence_0 := cellK cconfidence_0 hb
            replace cconfidence_1 := cellK cconfidence_1 hb
            clear hb hWn
            refine hK.out _ _ ⟨cc_0, cc_1, cconfidence_0, cconfidence_1⟩ (fun hH => ?_)
            clear hK K
            try simp only [Act.put, List.setIfInBounds_toArray, List.set_cons_zero, List.set_cons_succ]
            clear hH
            have cx_0 : w8.cell? ⟨w7.heap.size, 0, none⟩ = some (.bool false) := Blx.at 0 rfl
            have cx_1 : w8.cell? ⟨w7.heap.size, 1, none⟩ = some (.slice none 0 0) := Blx.at 1 rfl
            have cx_2 : w8.cell? ⟨w7.heap.size, 2, none⟩ = some (.slice none 0 0) := Blx.at 2 rfl
            have cx_3 : w8.cell? ⟨w7.heap.size, 3, none⟩ = some (.bool false) := Blx.at 3 rfl
            have cx_4 : w8.cell? ⟨w7.heap.size, 4, none⟩ = some (.slice none 0 0) := Blx.at 4 rfl
            have cx_5 : w8.cell? ⟨w7.heap.size, 5, none⟩ = some (.slice none 0 0) := Blx.at 5 rfl
            have fx := Blx.free
            have Lx : w7.heap.size < w8.heap.size := Blx.lt
            refine U_one (i := 9) (by kernel_rfl) rfl (fun K hK => ?_)
            go_simp
            generalize hW_ : ((((((w8.setCell ⟨w7.heap.size, 0, none⟩ (.bool sh6a)).setCell ⟨w7.heap.size, 1, none⟩ (.slice ah6a nh6a ch6a)).setCell ⟨w7.heap.size, 2, none⟩ (.slice Ah6a Nh6a Ch6a)).setCell ⟨w7.heap.size, 3, none⟩ (.bool sh6b)).setCell ⟨w7.heap.size, 4, none⟩ (.slice ah6b nh6b ch6b)).setCell ⟨w7.heap.size, 5, none⟩ (.slice Ah6b Nh6b Ch6b)) = w9
            have hW := hW_.symm
            clear hW_
            have hG : Gr [w7.heap.size] w8 w9 := by rw [hW]; exact (Gr.refl _ _).set.set.set.set.set.set
            have hsz := hs.size
            have lx := Blx.lt
            have hbw : Below w.heap.size w8 w9 := hG.below1 hs.size (by first | omega | assumption)
            have hk : KeepD w8 w9 := hG.keep ⟨⟨_, Blx.ty, by decide⟩, True.intro⟩
            have Bl1x : Bx w9 (w7.heap.size) 59 #[.bool sh6a, .slice ah6a nh6a ch6a, .slice Ah6a Nh6a Ch6a, .bool sh6b, .slice ah6b nh6b ch6b, .slice Ah6b Nh6b Ch6b] := by rw [hW]; exact Blx.set6
            replace hs := hs.trans hbw
            replace Blc := hG.bx Blc (notMem1 (by omega))
            replace Blconfidence := hG.bx Blconfidence (notMem1 (by omega))
            replace Blls := hG.bx Blls (notMem1 (by omega))
            replace Blx := Bl1x
            clear Bl1x
            replace h5 := h5.keep hk
            replace h6a := h6a.keep hk
            replace h6b := h6b.keep hk
            replace cc_0 := hG.cell cc_0 (notMem1 (by dsimp only; omega))
            replace cc_1 := hG.cell cc_1 (notMem1 (by dsimp only; omega))
            replace cconfidence_0 := hG.cell cconfidence_0 (notMem1 (by dsimp only; omega))
            replace cconfidence_1 := hG.cell cconfidence_1 (notMem1 (by dsimp only; omega))
            clear hW hG hk hbw hsz lx
            refine hK.out _ _ ⟨cc_0, cc_1, cconfidence_0, cconfidence_1⟩ (fun hH => ?_)
            clear hK K
            try simp only [Act.put, List.setIfInBounds_toArray, List.set_cons_zero, List.set_cons_succ]
            clear hH
            refine U_last (by kernel_rfl) rfl (by kernel_rfl) (fun K hK => ?_)
            go_simp
            refine hK.out _ _ ?_
            clear hK K
            intro wl hW
            rw [hW]
            clear hW wl
            try simp only [Act.put, List.setIfInBounds_toArray, List.set_cons_zero, List.set_cons_succ]
            clear cc_0 cc_1 cconfidence_0 cconfidence_1
            go_wp2_with fail
            go_meet
            exact ⟨w7.heap.size, _, _, _, _, _, _, _, _, _, _, _, _, _, _, rfl, rfl, (by first | exact sz_x | omega), (by omega), (by omega), (by omega), Blx, hs, Blc, Blconfidence, Blls, h6a, h6b⟩
          · clear hH
            go_simp
            generalize hWn : (w6.alloc (.cells #[.bool false, .slice none 0 0, .slice none 0 0, .bool false, .slice none 0 0, .slice none 0 0] 59)) = w7
            have hb : Below w6.heap.size w6 w7 := by rw [← hWn]; exact (Below.refl _ _).alloc (Nat.le_refl _) _
            have Blx : Bx w7 (w6.heap.size) 59 #[.bool false, .slice none 0 0, .slice none 0 0, .bool false, .slice none 0 0, .slice none 0 0] := by rw [← hWn]; exact Bx.new _ _ _
            have nc_x : w.heap.size ≠ w6.heap.size := by have := Blc.lt; omega
            have nconfidence_x : w.heap.size + 1 ≠ w6.heap.size := by have := Blconfidence.lt; omega
            have nls_x : w2.heap.size ≠ w6.heap.size := by have := Blls.lt; omega
            have sz_x : w.heap.size ≤ w6.heap.size := hs.size
            replace hs := bStep hs hb
            replace Blc := Blc.mono hb
            replace Blconfidence := Blconfidence.mono hb
            replace Blls := Blls.mono hb
            replace h5 := h5.mono hb
            replace cc_0 := cellK cc_0 hb
            replace cc_1 := cellK cc_1 hb
            replace cconfidence_0 := cellK cconfidence_0 hb
            replace cconfidence_1 := cellK cconfidence_1 hb
            clear hb hWn
            refine hK.out _ _ ⟨cc_0, cc_1, cconfidence_0, cconfidence_1⟩ (fun hH => ?_)
            clear hK K
            try simp only [Act.put, List.setIfInBounds_toArray, List.set_cons_zero, List.set_cons_succ]
            clear hH
            refine U_one (i := 4) (by kernel_rfl) rfl (fun K hK => ?_)
            go_simp
            (with_reducible refine (al_Det_all (k := kk) _ h5 su (by omega) rfl rfl HE.out).mono ?_)
            rintro e w8 ⟨_, _, rfl, h6, rfl, hb⟩
            obtain ⟨sh6a, ah6a, nh6a, ch6a, Ah6a, Nh6a, Ch6a, sh6b, ah6b, nh6b, ch6b, Ah6b, Nh6b, Ch6b, rfl, h6a, h6b⟩ := h6.shape
            replace hs := bStep hs hb
            replace Blc := Blc.mono hb
            replace Blconfidence := Blconfidence.mono hb
            replace Blls := Blls.mono hb
            replace Blx := Blx.mono hb
            replace h5 := h5.mono hb
            replace cc_0 := cellK cc_0 hb
            replace cc_1 := cellK cc_1 hb
            replace cconfidence_0 := cellK cconfidence_0 hb
            replace cconfidence_1 := cellK cconfidence_1 hb
            clear hb
            try go_wp2_with fail
            refine hK.out _ _ ⟨cc_0, cc_1, cconfidence_0, cconfidence_1⟩ (fun hH => ?_)
            clear hK K
            try simp only [Act.put, List.setIfInBounds_toArray, List.set_cons_zero, List.set_cons_succ]
            refine U_take (i := 5) (v := ?_) rfl (by kernel_rfl) (by kernel_rfl) (by kernel_rfl) (by kernel_rfl) (fun _ _ _ h => h) (Or.inl ⟨by rfl, ?_⟩) hH ?_
            rotate_left
            · intro w hSw
              try dsimp only at hSw
              go_simp
              try with_reducible rfl
            try simp only [Act.put, List.setIfInBounds_toArray, List.set_cons_zero, List.set_cons_succ]
            refine U_take (i := 6) (v := ?_) rfl (by kernel_rfl) (by kernel_rfl) (by kernel_rfl) (by kernel_rfl) (fun _ _ _ h => h) (Or.inl ⟨by rfl, ?_⟩) hH ?_
            rotate_left
            · intro w hSw
              try dsimp only at hSw
              go_simp
              try with_reducible rfl
            try simp only [Act.put, List.setIfInBounds_toArray, List.set_cons_zero, List.set_cons_succ]
            refine U_take (i := 7) (v := ?_) rfl (by kernel_rfl) (by kernel_rfl) (by kernel_rfl) (by kernel_rfl) (fun _ _ _ h => h) (Or.inl ⟨by rfl, ?_⟩) hH ?_
            rotate_left
            · intro w hSw
              try dsimp only at hSw
              go_simp
              try with_reducible rfl
            try simp only [Act.put, List.setIfInBounds_toArray, List.set_cons_zero, List.set_cons_succ]
            clear hH
            have cx_0 : w8.cell? ⟨w6.heap.size, 0, none⟩ = some (.bool false) := Blx.at 0 rfl
            have cx_1 : w8.cell? ⟨w6.heap.size, 1, none⟩ = some (.slice none 0 0) := Blx.at 1 rfl
            have cx_2 : w8.cell? ⟨w6.heap.size, 2, none⟩ = some (.slice none 0 0) := Blx.at 2 rfl
            have cx_3 : w8.cell? ⟨w6.heap.size, 3, none⟩ = some (.bool false) := Blx.at 3 rfl
            have cx_4 : w8.cell? ⟨w6.heap.size, 4, none⟩ = some (.slice none 0 0) := Blx.at 4 rfl
            have cx_5 : w8.cell? ⟨w6.heap.size, 5, none⟩ = some (.slice none 0 0) := Blx.at 5 rfl
            have fx := Blx.free
            have Lx : w6.heap.size < w8.heap.size := Blx.lt
            refine U_one (i := 9) (by kernel_rfl) rfl (fun K hK => ?_)
            go_simp
            generalize hW_ : ((((((w8.setCell ⟨w6.heap.size, 0, none⟩ (.bool sh6a)).setCell ⟨w6.heap.size, 1, none⟩ (.slice ah6a nh6a ch6a)).setCell ⟨w6.heap.size, 2, none⟩ (.slice Ah6a Nh6a Ch6a)).setCell ⟨w6.heap.size, 3, none⟩ (.bool sh6b)).setCell ⟨w6.heap.size, 4, none⟩ (.slice ah6b nh6b ch6b)).setCell ⟨w6.heap.size, 5, none⟩ (.slice Ah6b Nh6b Ch6b)) = w9
            have hW := hW_.symm
            clear hW_
            have hG : Gr [w6.heap.size] w8 w9 := by rw [hW]; exact (Gr.refl _ _).set.set.set.set.set.set
            have hsz := hs.size
            have lx := Blx.lt
            have hbw : Below w.heap.size w8 w9 := hG.below1 hs.size (by first | omega | assumption)
            have hk : KeepD w8 w9 := hG.keep ⟨⟨_, Blx.ty, by decide⟩, True.intro⟩
            have Bl1x : Bx w9 (w6.heap.size) 59 #[.bool sh6a, .slice ah6a nh6a ch6a, .slice Ah6a Nh6a Ch6a, .bool sh6b, .slice ah6b nh6b ch6b, .slice Ah6b Nh6b Ch6b] := by rw [hW]; exact Blx.set6
            replace hs := hs.trans hbw
            replace Blc := hG.bx Blc (notMem1 (by omega))
            replace Blconfidence := hG.bx Blconfidence (notMem1 (by omega))
            replace Blls := hG.bx Blls (notMem1 (by omega))
            replace Blx := Bl1x
            clear Bl1x
            replace h5 := h5.keep hk
            replace h6a := h6a.keep hk
            replace h6b := h6b.keep hk
            replace cc_0 := hG.cell cc_0 (notMem1 (by dsimp only; omega))
            replace cc_1 := hG.cell cc_1 (notMem1 (by dsimp only; omega))
            replace cconfidence_0 := hG.cell cconfidence_0 (notMem1 (by dsimp only; omega))
            replace cconfidence_1 := hG.cell cconfidence_1 (notMem1 (by dsimp only; omega))
            clear hW hG hk hbw hsz lx
            refine hK.out _ _ ⟨cc_0, cc_1, cconfidence_0, cconfidence_1⟩ (fun hH => ?_)
            clear hK K
            try simp only [Act.put, List.setIfInBounds_toArray, List.set_cons_zero, List.set_cons_succ]
            clear hH
            refine U_last (by kernel_rfl) rfl (by kernel_rfl) (fun K hK => ?_)
            go_simp
            refine hK.out _ _ ?_
            clear hK K
            intro wl hW
            rw [hW]
            clear hW wl
            try simp only [Act.put, List.setIfInBounds_toArray, List.set_cons_zero, List.set_cons_succ]
            clear cc_0 cc_1 cconfidence_0 cconfidence_1
            go_wp2_with fail
            go_meet
            exact ⟨w6.heap.size, _, _, _, _, _, _, _, _, _, _, _, _, _, _, rfl, rfl, (by first | exact sz_x | omega), (by omega), (by omega), (by omega), Blx, hs, Blc, Blconfidence, Blls, h6a, h6b⟩
        · clear hH
          go_simp
          generalize hWn : (w5.alloc (.cells #[.bool false, .slice none 0 0, .slice none 0 0, .bool false, .slice none 0 0, .slice none 0 0] 59)) = w6
          have hb : Below w5.heap.size w5 w6 := by rw [← hWn]; exact (Below.refl _ _).alloc (Nat.le_refl _) _
          have Blx : Bx w6 (w5.heap.size) 59 #[.bool false, .slice none 0 0, .slice none 0 0, .bool false, .slice none 0 0, .slice none 0 0] := by rw [← hWn]; exact Bx.new _ _ _
          have nc_x : w.heap.size ≠ w5.heap.size := by have := Blc.lt; omega
          have nconfidence_x : w.heap.size + 1 ≠ w5.heap.size := by have := Blconfidence.lt; omega
          have nls_x : w2.heap.size ≠ w5.heap.size := by have := Blls.lt; omega
          have sz_x : w.heap.size ≤ w5.heap.size := hs.size
          replace hs := bStep hs hb
          replace Blc := Blc.mono hb
          replace Blconfidence := Blconfidence.mono hb
          replace Blls := Blls.mono hb
          replace cc_0 := cellK cc_0 hb
          replace cc_1 := cellK cc_1 hb
          replace cconfidence_0 := cellK cconfidence_0 hb
          replace cconfidence_1 := cellK cconfidence_1 hb
          clear hb hWn
          refine hK.out _ _ ⟨cc_0, cc_1, cconfidence_0, cconfidence_1⟩ (fun hH => ?_)
          clear hK K
          try simp only [Act.put, List.setIfInBounds_toArray, List.set_cons_zero, List.set_cons_succ]
          clear hH
          refine U_one (i := 2) (by kernel_rfl) rfl (fun K hK => ?_)
          go_simp
          (with_reducible refine (l1_OfD _ O1.out HU.out).mono ?_)
          rintro e w7 ⟨_, rfl, h5, hb⟩
          obtain ⟨sh5, ah5, nh5, ch5, Ah5, Nh5, Ch5, rfl⟩ := h5.shape
          replace hs := bStep hs hb
          replace Blc := Blc.mono hb
          replace Blconfidence := Blconfidence.mono hb
          replace Blls := Blls.mono hb
          replace Blx := Blx.mono hb
          replace cc_0 := cellK cc_0 hb
          replace cc_1 := cellK cc_1 hb
          replace cconfidence_0 := cellK cconfidence_0 hb
          replace cconfidence_1 := cellK cconfidence_1 hb
          clear hb
          try go_wp2_with fail
          refine hK.out _ _ ⟨cc_0, cc_1, cconfidence_0, cconfidence_1⟩ (fun hH => ?_)
          clear hK K
          try simp only [Act.put, List.setIfInBounds_toArray, List.set_cons_zero, List.set_cons_succ]
          clear hH
          refine U_one (i := 4) (by kernel_rfl) rfl (fun K hK => ?_)
          go_simp
          (with_reducible refine (al_Det_all (k := kk) _ h5 su (by omega) rfl rfl HE.out).mono ?_)
          rintro e w8 ⟨_, _, rfl, h6, rfl, hb⟩
          obtain ⟨sh6a, ah6a, nh6a, ch6a, Ah6a, Nh6a, Ch6a, sh6b, ah6b, nh6b, ch6b, Ah6b, Nh6b, Ch6b, rfl, h6a, h6b⟩ := h6.shape
          replace hs := bStep hs hb
          replace Blc := Blc.mono hb
          replace Blconfidence := Blconfidence.mono hb
          replace Blls := Blls.mono hb
          replace Blx := Blx.mono hb
          replace h5 := h5.mono hb
          replace cc_0 := cellK cc_0 hb
          replace cc_1 := cellK cc_1 hb
          replace cconfidence_0 := cellK cconfidence_0 hb
          replace cconfidence_1 := cellK cconfidence_1 hb
          clear hb
          try go_wp2_with fail
          refine hK.out _ _ ⟨cc_0, cc_1, cconfidence_0, cconfidence_1⟩ (fun hH => ?_)
          clear hK K
          try simp only [Act.put, List.setIfInBounds_toArray, List.set_cons_zero, List.set_cons_succ]
          refine U_take (i := 5) (v := ?_) rfl (by kernel_rfl) (by kernel_rfl) (by kernel_rfl) (by kernel_rfl) (fun _ _ _ h => h) (Or.inl ⟨by rfl, ?_⟩) hH ?_
          rotate_left
          · intro w hSw
            try dsimp only at hSw
            go_simp
            try with_reducible rfl
          try simp only [Act.put, List.setIfInBounds_toArray, List.set_cons_zero, List.set_cons_succ]
          refine U_take (i := 6) (v := ?_) rfl (by kernel_rfl) (by kernel_rfl) (by kernel_rfl) (by kernel_rfl) (fun _ _ _ h => h) (Or.inl ⟨by rfl, ?_⟩) hH ?_
          rotate_left
          · intro w hSw
            try dsimp only at hSw
            go_simp
            try with_reducible rfl
          try simp only [Act.put, List.setIfInBounds_toArray, List.set_cons_zero, List.set_cons_succ]
          refine U_take (i := 7) (v := ?_) rfl (by kernel_rfl) (by kernel_rfl) (by kernel_rfl) (by kernel_rfl) (fun _ _ _ h => h) (Or.inl ⟨by rfl, ?_⟩) hH ?_
          rotate_left
          · intro w hSw
            try dsimp only at hSw
            go_simp
            try with_reducible rfl
          try simp only [Act.put, List.setIfInBounds_toArray, List.set_cons_zero, List.set_cons_succ]
          clear hH
          have cx_0 : w8.cell? ⟨w5.heap.size, 0, none⟩ = some (.bool false) := Blx.at 0 rfl
          have cx_1 : w8.cell? ⟨w5.heap.size, 1, none⟩ = some (.slice none 0 0) := Blx.at 1 rfl
          have cx_2 : w8.cell? ⟨w5.heap.size, 2, none⟩ = some (.slice none 0 0) := Blx.at 2 rfl
          have cx_3 : w8.cell? ⟨w5.heap.size, 3, none⟩ = some (.bool false) := Blx.at 3 rfl
          have cx_4 : w8.cell? ⟨w5.heap.size, 4, none⟩ = some (.slice none 0 0) := Blx.at 4 rfl
          have cx_5 : w8.cell? ⟨w5.heap.size, 5, none⟩ = some (.slice none 0 0) := Blx.at 5 rfl
          have fx := Blx.free
          have Lx : w5.heap.size < w8.heap.size := Blx.lt
          refine U_one (i := 9) (by kernel_rfl) rfl (fun K hK => ?_)
          go_simp
          generalize hW_ : ((((((w8.setCell ⟨w5.heap.size, 0, none⟩ (.bool sh6a)).setCell ⟨w5.heap.size, 1, none⟩ (.slice ah6a nh6a ch6a)).setCell ⟨w5.heap.size, 2, none⟩ (.slice Ah6a Nh6a Ch6a)).setCell ⟨w5.heap.size, 3, none⟩ (.bool sh6b)).setCell ⟨w5.heap.size, 4, none⟩ (.slice ah6b nh6b ch6b)).setCell ⟨w5.heap.size, 5, none⟩ (.slice Ah6b Nh6b Ch6b)) = w9
          have hW := hW_.symm
          clear hW_
          have hG : Gr [w5.heap.size] w8 w9 := by rw [hW]; exact (Gr.refl _ _).set.set.set.set.set.set
          have hsz := hs.size
          have lx := Blx.lt
          have hbw : Below w.heap.size w8 w9 := hG.below1 hs.size (by first | omega | assumption)
          have hk : KeepD w8 w9 := hG.keep ⟨⟨_, Blx.ty, by decide⟩, True.intro⟩
          have Bl1x : Bx w9 (w5.heap.size) 59 #[.bool sh6a, .slice ah6a nh6a ch6a, .slice Ah6a Nh6a Ch6a, .bool sh6b, .slice ah6b nh6b ch6b, .slice Ah6b Nh6b Ch6b] := by rw [hW]; exact Blx.set6
          replace hs := hs.trans hbw
          replace Blc := hG.bx Blc (notMem1 (by omega))
          replace Blconfidence := hG.bx Blconfidence (notMem1 (by omega))
          replace Blls := hG.bx Blls (notMem1 (by omega))
          replace Blx := Bl1x
          clear Bl1x
          replace h5 := h5.keep hk
          replace h6a := h6a.keep hk
          replace h6b := h6b.keep hk
          replace cc_0 := hG.cell cc_0 (notMem1 (by dsimp only; omega))
          replace cc_1 := hG.cell cc_1 (notMem1 (by dsimp only; omega))
          replace cconfidence_0 := hG.cell cconfidence_0 (notMem1 (by dsimp only; omega))
          replace cconfidence_1 := hG.cell cconfidence_1 (notMem1 (by dsimp only; omega))
          clear hW hG hk hbw hsz lx
          refine hK.out _ _ ⟨cc_0, cc_1, cconfidence_0, cconfidence_1⟩ (fun hH => ?_)
          clear hK K
          try simp only [Act.put, List.setIfInBounds_toArray, List.set_cons_zero, List.set_cons_succ]
          clear hH
          refine U_last (by kernel_rfl) rfl (by kernel_rfl) (fun K hK => ?_)
          go_simp
          refine hK.out _ _ ?_
          clear hK K
          intro wl hW
          rw [hW]
          clear hW wl
          try simp only [Act.put, List.setIfInBounds_toArray, List.set_cons_zero, List.set_cons_succ]
          clear cc_0 cc_1 cconfidence_0 cconfidence_1
          go_wp2_with fail
          go_meet
          exact ⟨w5.heap.size, _, _, _, _, _, _, _, _, _, _, _, _, _, _, rfl, rfl, (by first | exact sz_x | omega), (by omega), (by omega), (by omega), Blx, hs, Blc, Blconfidence, Blls, h6a, h6b⟩
      case rest =>
        clear hs Blc Blconfidence Blls
        obtain ⟨gx, sh6a, ah6a, nh6a, ch6a, Ah6a, Nh6a, Ch6a, sh6b, ah6b, nh6b, ch6b, Ah6b, Nh6b, Ch6b, rfl, rfl, hg_x, ng_x_c, ng_x_confidence, ng_x_ls, Blx, hs, Blc, Blconfidence, Blls, h6a, h6b⟩ := hcut
        go_upto_region 6 with fail
        go_cut [9, 10] (fun kv0 kx0 wz => ∃ gy sh8a ah8a nh8a ch8a Ah8a Nh8a Ch8a sh8b ah8b nh8b ch8b Ah8b Nh8b Ch8b, kv0 = .pointer (some ⟨gy, 0, none⟩) ∧ kx0 = .int .i64 e ∧ w.heap.size ≤ gy ∧ gy ≠ w.heap.size ∧ gy ≠ (w.heap.size + 1) ∧ gy ≠ w2.heap.size ∧ gy ≠ gx ∧ Bx wz gy 63 #[.bool sh8a, .slice ah8a nh8a ch8a, .slice Ah8a Nh8a Ch8a, .bool sh8b, .slice ah8b nh8b ch8b, .slice Ah8b Nh8b Ch8b] ∧ Below w.heap.size w wz ∧ Bx wz (w.heap.size) 57 #[.int .i64 n, .int .i64 f] ∧ Bx wz (w.heap.size + 1) 23 #[.int .i64 n1, .int .i64 d1] ∧ Bx wz (w2.heap.size) 23 #[.int .i64 n1, .int .i64 d1] ∧ Bx wz (gx) 59 #[.bool sh6a, .slice ah6a nh6a ch6a, .slice Ah6a Nh6a Ch6a, .bool sh6b, .slice ah6b nh6b ch6b, .slice Ah6b Nh6b Ch6b] ∧ PV wz (.agg #[.bool sh6a, .slice ah6a nh6a ch6a, .slice Ah6a Nh6a Ch6a]) (dtLo n f u kk) ∧ PV wz (.agg #[.bool sh6b, .slice ah6b nh6b ch6b, .slice Ah6b Nh6b Ch6b]) (dtHi n f u kk) ∧ RV wz (.agg #[.bool sh8a, .slice ah8a nh8a ch8a, .slice Ah8a Nh8a Ch8a]) (dtLo n f u kk) ∧ RV wz (.agg #[.bool sh8b, .slice ah8b nh8b ch8b, .slice Ah8b Nh8b Ch8b]) (dtHi n f u kk))
        case first => as_aux_lemma =>
          refine U_region (S := fun w' => w'.cell? ⟨w.heap.size, 0, none⟩ = some (.int .i64 n) ∧ w'.cell? ⟨w.heap.size, 1, none⟩ = some (.int .i64 f) ∧ w'.cell? ⟨w.heap.size + 1, 0, none⟩ = some (.int .i64 n1) ∧ w'.cell? ⟨w.heap.size + 1, 1, none⟩ = some (.int .i64 d1)) (by kernel_rfl) 10 ?_
          refine AnyU.abs ?_
          intro w5 hW
          have hb : Below wc.heap.size wc w5 := by rw [hW]; exact bDrew _
          replace hs := bStep hs hb
          replace Blc := Blc.mono hb
          replace Blconfidence := Blconfidence.mono hb
          replace Blls := Blls.mono hb
          replace Blx := Blx.mono hb
          replace h6a := h6a.mono hb
          replace h6b := h6b.mono hb
          clear hb hW
          have cc_0 : w5.cell? ⟨w.heap.size, 0, none⟩ = some (.int .i64 n) := Blc.at 0 rfl
          have cc_1 : w5.cell? ⟨w.heap.size, 1, none⟩ = some (.int .i64 f) := Blc.at 1 rfl
          have cconfidence_0 : w5.cell? ⟨w.heap.size + 1, 0, none⟩ = some (.int .i64 n1) := Blconfidence.at 0 rfl
          have cconfidence_1 : w5.cell? ⟨w.heap.size + 1, 1, none⟩ = some (.int .i64 d1) := Blconfidence.at 1 rfl
          have hH := (show w5.cell? ⟨w.heap.size, 0, none⟩ = some (.int .i64 n) ∧ w5.cell? ⟨w.heap.size, 1, none⟩ = some (.int .i64 f) ∧ w5.cell? ⟨w.heap.size + 1, 0, none⟩ = some (.int .i64 n1) ∧ w5.cell? ⟨w.heap.size + 1, 1, none⟩ = some (.int .i64 d1) from ⟨cc_0, cc_1, cconfidence_0, cconfidence_1⟩)
          refine U_take (i := 0) (v := ?_) rfl (by kernel_rfl) (by kernel_rfl) (by kernel_rfl) (by kernel_rfl) (fun _ _ _ h => h) (Or.inl ⟨by rfl, ?_⟩) hH ?_
          rotate_left
          · intro w hSw
            try dsimp only at hSw
            go_simp
            try with_reducible rfl
          try simp only [Act.put, List.setIfInBounds_toArray, List.set_cons_zero, List.set_cons_succ]
          refine U_take (i := 1) (v := ?_) rfl (by kernel_rfl) (by kernel_rfl) (by kernel_rfl) (by kernel_rfl) (fun _ _ _ h => h) (Or.inl ⟨by rfl, ?_⟩) hH ?_
          rotate_left
          · intro w hSw
            try dsimp only at hSw
            go_simp
            try with_reducible rfl
          try simp only [Act.put, List.setIfInBounds_toArray, List.set_cons_zero, List.set_cons_succ]
          refine U_take (i := 3) (v := ?_) rfl (by kernel_rfl) (by kernel_rfl) (by kernel_rfl) (by kernel_rfl) (fun _ _ _ h => h) (Or.inl ⟨by rfl, ?_⟩) hH ?_
          rotate_left
          · intro w hSw
            try dsimp only at hSw
            go_simp
            try with_reducible rfl
          try simp only [Act.put, List.setIfInBounds_toArray, List.set_cons_zero, List.set_cons_succ]
          refine U_two (i := 2) (j := 8) (by kernel_rfl) rfl rfl (fun K hK => ?_) (fun K hK => ?_)
          · clear hH
            go_simp
            (with_reducible refine (r1_OfD _ O1.out HU.out).mono ?_)
            rintro e w6 ⟨_, rfl, h7, hb⟩
            obtain ⟨sh7, ah7, nh7, ch7, Ah7, Nh7, Ch7, rfl⟩ := h7.shape
            replace hs := bStep hs hb
            replace Blc := Blc.mono hb
            replace Blconfidence := Blconfidence.mono hb
            replace Blls := Blls.mono hb
            replace Blx := Blx.mono hb
            replace h6a := h6a.mono hb
            replace h6b := h6b.mono hb
            replace cc_0 := cellK cc_0 hb
            replace cc_1 := cellK cc_1 hb
            replace cconfidence_0 := cellK cconfidence_0 hb
            replace cconfidence_1 := cellK cconfidence_1 hb
            clear hb
            try go_wp2_with fail
            refine hK.out _ _ ⟨cc_0, cc_1, cconfidence_0, cconfidence_1⟩ (fun hH => ?_)
            clear hK K
            try simp only [Act.put, List.setIfInBounds_toArray, List.set_cons_zero, List.set_cons_succ]
            refine U_two (i := 4) (j := 8) (by kernel_rfl) rfl rfl (fun K hK => ?_) (fun K hK => ?_)
            · clear hH
              go_simp
              (with_reducible refine (r8_Det_all (k := kk) _ h7 su (by omega) rfl rfl HE.out).mono ?_)
              rintro e w7 ⟨_, _, rfl, h8, rfl, hb⟩
              obtain ⟨sh8a, ah8a, nh8a, ch8a, Ah8a, Nh8a, Ch8a, sh8b, ah8b, nh8b, ch8b, Ah8b, Nh8b, Ch8b, rfl, h8a, h8b⟩ := h8.shape
              replace hs := bStep hs hb
              replace Blc := Blc.mono hb
              replace Blconfidence := Blconfidence.mono hb
              replace Blls := Blls.mono hb
              replace Blx := Blx.mono hb
              replace h6a := h6a.mono hb
              replace h6b := h6b.mono hb
              replace h7 := h7.mono hb
              replace cc_0 := cellK cc_0 hb
              replace cc_1 := cellK cc_1 hb
              replace cconfidence_0 := cellK cconfidence_0 hb
              replace cconfidence_1 := cellK cconfidence_1 hb
              clear hb
              try go_wp2_with fail
              refine hK.out _ _ ⟨cc_0, cc_1, cconfidence_0, cconfidence_1⟩ (fun hH => ?_)
              clear hK K
              try simp only [Act.put, List.setIfInBounds_toArray, List.set_cons_zero, List.set_cons_succ]
              refine U_take (i := 5) (v := ?_) rfl (by kernel_rfl) (by kernel_rfl) (by kernel_rfl) (by kernel_rfl) (fun _ _ _ h => h) (Or.inl ⟨by rfl, ?_⟩) hH ?_
              rotate_left
              · intro w hSw
                try dsimp only at hSw
                go_simp
                try with_reducible rfl
              try simp only [Act.put, List.setIfInBounds_toArray, List.set_cons_zero, List.set_cons_succ]
              refine U_take (i := 6) (v := ?_) rfl (by kernel_rfl) (by kernel_rfl) (by kernel_rfl) (by kernel_rfl) (fun _ _ _ h => h) (Or.inl ⟨by rfl, ?_⟩) hH ?_
              rotate_left
              · intro w hSw
                try dsimp only at hSw
                go_simp
                try with_reducible rfl
              try simp only [Act.put, List.setIfInBounds_toArray, List.set_cons_zero, List.set_cons_succ]
              refine U_take (i := 7) (v := ?_) rfl (by kernel_rfl) (by kernel_rfl) (by kernel_rfl) (by kernel_rfl) (fun _ _ _ h => h) (Or.inl ⟨by rfl, ?_⟩) hH ?_
              rotate_left
              · intro w hSw
                try dsimp only at hSw
                go_simp
                try with_reducible rfl
              try simp only [Act.put, List.setIfInBounds_toArray, List.set_cons_zero, List.set_cons_succ]
              clear hH
              refine U_one (i := 8) (by kernel_rfl) rfl (fun K hK => ?_)
              go_simp
              generalize hWn : (w7.alloc (.cells #[.bool false, .slice none 0 0, .slice none 0 0, .bool false, .slice none 0 0, .slice none 0 0] 63)) = w8
              have hb : Below w7.heap.size w7 w8 := by rw [← hWn]; exact (Below.refl _ _).alloc (Nat.le_refl _) _
              have Bly : Bx w8 (w7.heap.size) 63 #[.bool false, .slice none 0 0, .slice none 0 0, .bool false, .slice none 0 0, .slice none 0 0] := by rw [← hWn]; exact Bx.new _ _ _
              have nc_y : w.heap.size ≠ w7.heap.size := by have := Blc.lt; omega
              have nconfidence_y : w.heap.size + 1 ≠ w7.heap.size := by have := Blconfidence.lt; omega
              have nls_y : w2.heap.size ≠ w7.heap.size := by have := Blls.lt; omega
              have nx_y : gx ≠ w7.heap.size := by have := Blx.lt; omega
              have sz_y : w.heap.size ≤ w7.heap.size := hs.size
              replace hs := bStep hs hb
              replace Blc := Blc.mono hb
              replace Blconfidence := Blconfidence.mono hb
              replace Blls := Blls.mono hb
              replace Blx := Blx.mono hb
              replace h6a := h6a.mono hb
              replace h6b := h6b.mono hb
              replace h7 := h7.mono hb
              replace h8a := h8a.mono hb
              replace h8b := h8b.mono hb
              replace cc_0 := cellK cc_0 hb
              replace cc_1 := cellK cc_1 hb
              replace cconfidence_0 := cellK cconfidence_0 hb
              replace cconfidence_1 := cellK cconfidence_1 hb
              clear hb hWn
              refine hK.out _ _ ⟨cc_0, cc_1, cconfidence_0, cconfidence_1⟩ (fun hH => ?_)
              clear hK K
              try simp only [Act.put, List.setIfInBounds_toArray, List.set_cons_zero, List.set_cons_succ]
              clear hH
              have cy_0 : w8.cell? ⟨w7.heap.size, 0, none⟩ = some (.bool false) := Bly.at 0 rfl
              have cy_1 : w8.cell? ⟨w7.heap.size, 1, none⟩ = some (.slice none 0 0) := Bly.at 1 rfl
              have cy_2 : w8.cell? ⟨w7.heap.size, 2, none⟩ = some (.slice none 0 0) := Bly.at 2 rfl
              have cy_3 : w8.cell? ⟨w7.heap.size, 3, none⟩ = some (.bool false) := Bly.at 3 rfl
              have cy_4 : w8.cell? ⟨w7.heap.size, 4, none⟩ = some (.slice none 0 0) := Bly.at 4 rfl
              have cy_5 : w8.cell? ⟨w7.heap.size, 5, none⟩ = some (.slice none 0 0) := Bly.at 5 rfl
              have fy := Bly.free
              have Ly : w7.heap.size < w8.heap.size := Bly.lt
              refine U_one (i := 9) (by kernel_rfl) rfl (fun K hK => ?_)
              go_simp
              generalize hW_ : ((((((w8.setCell ⟨w7.heap.size, 0, none⟩ (.bool sh8a)).setCell ⟨w7.heap.size, 1, none⟩ (.slice ah8a nh8a ch8a)).setCell ⟨w7.heap.size, 2, none⟩ (.slice Ah8a Nh8a Ch8a)).setCell ⟨w7.heap.size, 3, none⟩ (.bool sh8b)).setCell ⟨w7.heap.size, 4, none⟩ (.slice ah8b nh8b ch8b)).setCell ⟨w7.heap.size, 5, none⟩ (.slice Ah8b Nh8b Ch8b)) = w9
              have hW := hW_.symm
              clear hW_
              have hG : Gr [w7.heap.size] w8 w9 := by rw [hW]; exact (Gr.refl _ _).set.set.set.set.set.set
              have hsz := hs.size
              have ly := Bly.lt
              have hbw : Below w.heap.size w8 w9 := hG.below1 hs.size (by first | omega | assumption)
              have hk : KeepD w8 w9 := hG.keep ⟨⟨_, Bly.ty, by decide⟩, True.intro⟩
              have Bl1y : Bx w9 (w7.heap.size) 63 #[.bool sh8a, .slice ah8a nh8a ch8a, .slice Ah8a Nh8a Ch8a, .bool sh8b, .slice ah8b nh8b ch8b, .slice Ah8b Nh8b Ch8b] := by rw [hW]; exact Bly.set6
              replace hs := hs.trans hbw
              replace Blc := hG.bx Blc (notMem1 (by omega))
              replace Blconfidence := hG.bx Blconfidence (notMem1 (by omega))
              replace Blls := hG.bx Blls (notMem1 (by omega))
              replace Blx := hG.bx Blx (notMem1 (by omega))
              replace Bly := Bl1y
              clear Bl1y
              replace h6a := h6a.keep hk
              replace h6b := h6b.keep hk
              replace h7 := h7.keep hk
              replace h8a := h8a.keep hk
              replace h8b := h8b.keep hk
              replace cc_0 := hG.cell cc_0 (notMem1 (by dsimp only; omega))
              replace cc_1 := hG.cell cc_1 (notMem1 (by dsimp only; omega))
              replace cconfidence_0 := hG.cell cconfidence_0 (notMem1 (by dsimp only; omega))
              replace cconfidence_1 := hG.cell cconfidence_1 (notMem1 (by dsimp only; omega))
              clear hW hG hk hbw hsz ly
              refine hK.out _ _ ⟨cc_0, cc_1, cconfidence_0, cconfidence_1⟩ (fun hH => ?_)
              clear hK K
              try simp only [Act.put, List.setIfInBounds_toArray, List.set_cons_zero, List.set_cons_succ]
              clear hH
              refine U_last (by kernel_rfl) rfl (by kernel_rfl) (fun K hK => ?_)
              go_simp
              refine hK.out _ _ ?_
              clear hK K
              intro wl hW
              rw [hW]
              clear hW wl
              try simp only [Act.put, List.setIfInBounds_toArray, List.set_cons_zero, List.set_cons_succ]
              clear cc_0 cc_1 cconfidence_0 cconfidence_1
              go_wp2_with fail
              go_meet
              exact ⟨w7.heap.size, _, _, _, _, _, _, _, _, _, _, _, _, _, _, rfl, rfl, (by first | exact sz_y | omega), (by omega), (by omega), (by omega), (by omega), Bly, hs, Blc, Blconfidence, Blls, Blx, h6a, h6b, h8a, h8b⟩
            · clear hH
              go_simp
              generalize hWn : (w6.alloc (.cells #[.bool false, .slice none 0 0, .slice none 0 0, .bool false, .slice none 0 0, .slice none 0 0] 63)) = w7
              have hb : Below w6.heap.size w6 w7 := by rw [← hWn]; exact (Below.refl _ _).alloc (Nat.le_refl _) _
              have Bly : Bx w7 (w6.heap.size) 63 #[.bool false, .slice none 0 0, .slice none 0 0, .bool false, .slice none 0 0, .slice none 0 0] := by rw [← hWn]; exact Bx.new _ _ _
              have nc_y : w.heap.size ≠ w6.heap.size := by have := Blc.lt; omega
              have nconfidence_y : w.heap.size + 1 ≠ w6.heap.size := by have := Blconfidence.lt; omega
              have nls_y : w2.heap.size ≠ w6.heap.size := by have := Blls.lt; omega
              have nx_y : gx ≠ w6.heap.size := by have := Blx.lt; omega
              have sz_y : w.heap.size ≤ w6.heap.size := hs.size
              replace hs := bStep hs hb
              replace Blc := Blc.mono hb
              replace Blconfidence := Blconfidence.mono hb
              replace Blls := Blls.mono hb
              replace Blx := Blx.mono hb
              replace h6a := h6a.mono hb
              replace h6b := h6b.mono hb
              replace h7 := h7.mono hb
              replace cc_0 := cellK cc_0 hb
              replace cc_1 := cellK cc_1 hb
              replace cconfidence_0 := cellK cconfidence_0 hb
              replace cconfidence_1 := cellK cconfidence_1 hb
              clear hb hWn
              refine hK.out _ _ ⟨cc_0, cc_1, cconfidence_0, cconfidence_1⟩ (fun hH => ?_)
              clear hK K
              try simp only [Act.put, List.setIfInBounds_toArray, List.set_cons_zero, List.set_cons_succ]
              clear hH
              refine U_one (i := 4) (by kernel_rfl) rfl (fun K hK => ?_)
              go_simp
              (with_reducible refine (r8_Det_all (k := kk) _ h7 su (by omega) rfl rfl HE.out).mono ?_)
              rintro e w8 ⟨_, _, rfl, h8, rfl, hb⟩
              obtain ⟨sh8a, ah8a, nh8a, ch8a, Ah8a, Nh8a, Ch8a, sh8b, ah8b, nh8b, ch8b, Ah8b, Nh8b, Ch8b, rfl, h8a, h8b⟩ := h8.shape
              replace hs := bStep hs hb
              replace Blc := Blc.mono hb
              replace Blconfidence := Blconfidence.mono hb
              replace Blls := Blls.mono hb
              replace Blx := Blx.mono hb
              replace Bly := Bly.mono hb
              replace h6a := h6a.mono hb
              replace h6b := h6b.mono hb
              replace h7 := h7.mono hb
              replace cc_0 := cellK cc_0 hb
              replace cc_1 := cellK cc_1 hb
              replace cconfidence_0 := cellK cconfidence_0 hb
              replace cconfidence_1 := cellK cconfidence_1 hb
              clear hb
              try go_wp2_with fail
              refine hK.out _ _ ⟨cc_0, cc_1, cconfidence_0, cconfidence_1⟩ (fun hH => ?_)
              clear hK K
              try simp only [Act.put, List.setIfInBounds_toArray, List.set_cons_zero, List.set_cons_succ]
              refine U_take (i := 5) (v := ?_) rfl (by kernel_rfl) (by kernel_rfl) (by kernel_rfl) (by kernel_rfl) (fun _ _ _ h => h) (Or.inl ⟨by rfl, ?_⟩) hH ?_
              rotate_left
              · intro w hSw
                try dsimp only at hSw
                go_simp
                try with_reducible rfl
              try simp only [Act.put, List.setIfInBounds_toArray, List.set_cons_zero, List.set_cons_succ]
              refine U_take (i := 6) (v := ?_) rfl (by kernel_rfl) (by kernel_rfl) (by kernel_rfl) (by kernel_rfl) (fun _ _ _ h => h) (Or.inl ⟨by rfl, ?_⟩) hH ?_
              rotate_left
              · intro w hSw
                try dsimp only at hSw
                go_simp
                try with_reducible rfl
              try simp only [Act.put, List.setIfInBounds_toArray, List.set_cons_zero, List.set_cons_succ]
              refine U_take (i := 7) (v := ?_) rfl (by kernel_rfl) (by kernel_rfl) (by kernel_rfl) (by kernel_rfl) (fun _ _ _ h => h) (Or.inl ⟨by rfl, ?_⟩) hH ?_
              rotate_left
              · intro w hSw
                try dsimp only at hSw
                go_simp
                try with_reducible rfl
              try simp only [Act.put, List.setIfInBounds_toArray, List.set_cons_zero, List.set_cons_succ]
              clear hH
              have cy_0 : w8.cell? ⟨w6.heap.size, 0, none⟩ = some (.bool false) := Bly.at 0 rfl
              have cy_1 : w8.cell? ⟨w6.heap.size, 1, none⟩ = some (.slice none 0 0) := Bly.at 1 rfl
              have cy_2 : w8.cell? ⟨w6.heap.size, 2, none⟩ = some (.slice none 0 0) := Bly.at 2 rfl
              have cy_3 : w8.cell? ⟨w6.heap.size, 3, none⟩ = some (.bool false) := Bly.at 3 rfl
              have cy_4 : w8.cell? ⟨w6.heap.size, 4, none⟩ = some (.slice none 0 0) := Bly.at 4 rfl
              have cy_5 : w8.cell? ⟨w6.heap.size, 5, none⟩ = some (.slice none 0 0) := Bly.at 5 rfl
              have fy := Bly.free
              have Ly : w6.heap.size < w8.heap.size := Bly.lt
              refine U_one (i := 9) (by kernel_rfl) rfl (fun K hK => ?_)
              go_simp
              generalize hW_ : ((((((w8.setCell ⟨w6.heap.size, 0, none⟩ (.bool sh8a)).setCell ⟨w6.heap.size, 1, none⟩ (.slice ah8a nh8a ch8a)).setCell ⟨w6.heap.size, 2, none⟩ (.slice Ah8a Nh8a Ch8a)).setCell ⟨w6.heap.size, 3, none⟩ (.bool sh8b)).setCell ⟨w6.heap.size, 4, none⟩ (.slice ah8b nh8b ch8b)).setCell ⟨w6.heap.size, 5, none⟩ (.slice Ah8b Nh8b Ch8b)) = w9
              have hW := hW_.symm
              clear hW_
              have hG : Gr [w6.heap.size] w8 w9 := by rw [hW]; exact (Gr.refl _ _).set.set.set.set.set.set
              have hsz := hs.size
              have ly := Bly.lt
              have hbw : Below w.heap.size w8 w9 := hG.below1 hs.size (by first | omega | assumption)
              have hk : KeepD w8 w9 := hG.keep ⟨⟨_, Bly.ty, by decide⟩, True.intro⟩
              have Bl1y : Bx w9 (w6.heap.size) 63 #[.bool sh8a, .slice ah8a nh8a ch8a, .slice Ah8a Nh8a Ch8a, .bool sh8b, .slice ah8b nh8b ch8b, .slice Ah8b Nh8b Ch8b] := by rw [hW]; exact Bly.set6
              replace hs := hs.trans hbw
              replace Blc := hG.bx Blc (notMem1 (by omega))
              replace Blconfidence := hG.bx Blconfidence (notMem1 (by omega))
              replace Blls := hG.bx Blls (notMem1 (by omega))
              replace Blx := hG.bx Blx (notMem1 (by omega))
              replace Bly := Bl1y
              clear Bl1y
              replace h6a := h6a.keep hk
              replace h6b := h6b.keep hk
              replace h7 := h7.keep hk
              replace h8a := h8a.keep hk
              replace h8b := h8b.keep hk
              replace cc_0 := hG.cell cc_0 (notMem1 (by dsimp only; omega))
              replace cc_1 := hG.cell cc_1 (notMem1 (by dsimp only; omega))
              replace cconfidence_0 := hG.cell cconfidence_0 (notMem1 (by dsimp only; omega))
              replace cconfidence_1 := hG.cell cconfidence_1 (notMem1 (by dsimp only; omega))
              clear hW hG hk hbw hsz ly
              refine hK.out _ _ ⟨cc_0, cc_1, cconfidence_0, cconfidence_1⟩ (fun hH => ?_)
              clear hK K
              try simp only [Act.put, List.setIfInBounds_toArray, List.set_cons_zero, List.set_cons_succ]
              clear hH
              refine U_last (by kernel_rfl) rfl (by kernel_rfl) (fun K hK => ?_)
              go_simp
              refine hK.out _ _ ?_
              clear hK K
              intro wl hW
              rw [hW]
              clear hW wl
              try simp only [Act.put, List.setIfInBounds_toArray, List.set_cons_zero, List.set_cons_succ]
              clear cc_0 cc_1 cconfidence_0 cconfidence_1
              go_wp2_with fail
              go_meet
              exact ⟨w6.heap.size, _, _, _, _, _, _, _, _, _, _, _, _, _, _, rfl, rfl, (by first | exact sz_y | omega), (by omega), (by omega), (by omega), (by omega), Bly, hs, Blc, Blconfidence, Blls, Blx, h6a, h6b, h8a, h8b⟩
          · clear hH
            go_simp
            generalize hWn : (w5.alloc (.cells #[.bool false, .slice none 0 0, .slice none 0 0, .bool false, .slice none 0 0, .slice none 0 0] 63)) = w6
            have hb : Below w5.heap.size w5 w6 := by rw [← hWn]; exact (Below.refl _ _).alloc (Nat.le_refl _) _
            have Bly : Bx w6 (w5.heap.size) 63 #[.bool false, .slice none 0 0, .slice none 0 0, .bool false, .slice none 0 0, .slice none 0 0] := by rw [← hWn]; exact Bx.new _ _ _
            have nc_y : w.heap.size ≠ w5.heap.size := by have := Blc.lt; omega
            have nconfidence_y : w.heap.size + 1 ≠ w5.heap.size := by have := Blconfidence.lt; omega
            have nls_y : w2.heap.size ≠ w5.heap.size := by have := Blls.lt; omega
            have nx_y : gx ≠ w5.heap.size := by have := Blx.lt; omega
            have sz_y : w.heap.size ≤ w5.heap.size := hs.size
            replace hs := bStep hs hb
            replace Blc := Blc.mono hb
            replace Blconfidence := Blconfidence.mono hb
            replace Blls := Blls.mono hb
            replace Blx := Blx.mono hb
            replace h6a := h6a.mono hb
            replace h6b := h6b.mono hb
            replace cc_0 := cellK cc_0 hb
            replace cc_1 := cellK cc_1 hb
            replace cconfidence_0 := cellK cconfidence_0 hb
            replace cconfidence_1 := cellK cconfidence_1 hb
            clear hb hWn
            refine hK.out _ _ ⟨cc_0, cc_1, cconfidence_0, cconfidence_1⟩ (fun hH => ?_)
            clear hK K
            try simp only [Act.put, List.setIfInBounds_toArray, List.set_cons_zero, List.set_cons_succ]
            clear hH
            refine U_one (i := 2) (by kernel_rfl) rfl (fun K hK => ?_)
            go_simp
            (with_reducible refine (r1_OfD _ O1.out HU.out).mono ?_)
            rintro e w7 ⟨_, rfl, h7, hb⟩
            obtain ⟨sh7, ah7, nh7, ch7, Ah7, Nh7, Ch7, rfl⟩ := h7.shape
            replace hs := bStep hs hb
            replace Blc := Blc.mono hb
            replace Blconfidence := Blconfidence.mono hb
            replace Blls := Blls.mono hb
            replace Blx := Blx.mono hb
            replace Bly := Bly.mono hb
            replace h6a := h6a.mono hb
            replace h6b := h6b.mono hb
            replace cc_0 := cellK cc_0 hb
            replace cc_1 := cellK cc_1 hb
            replace cconfidence_0 := cellK cconfidence_0 hb
            replace cconfidence_1 := cellK cconfidence_1 hb
            clear hb
            try go_wp2_with fail
            refine hK.out _ _ ⟨cc_0, cc_1, cconfidence_0, cconfidence_1⟩ (fun hH => ?_)
            clear hK K
            try simp only [Act.put, List.setIfInBounds_toArray, List.set_cons_zero, List.set_cons_succ]
            clear hH
            refine U_one (i := 4) (by kernel_rfl) rfl (fun K hK => ?_)
            go_simp
            (with_reducible refine (r8_Det_all (k := kk) _ h7 su (by omega) rfl rfl HE.out).mono ?_)
            rintro e w8 ⟨_, _, rfl, h8, rfl, hb⟩
            obtain ⟨sh8a, ah8a, nh8a, ch8a, Ah8a, Nh8a, Ch8a, sh8b, ah8b, nh8b, ch8b, Ah8b, Nh8b, Ch8b, rfl, h8a, h8b⟩ := h8.shape
            replace hs := bStep hs hb
            replace Blc := Blc.mono hb
            replace Blconfidence := Blconfidence.mono hb
            replace Blls := Blls.mono hb
            replace Blx := Blx.mono hb
            replace Bly := Bly.mono hb
            replace h6a := h6a.mono hb
            replace h6b := h6b.mono hb
            replace h7 := h7.mono hb
            replace cc_0 := cellK cc_0 hb
            replace cc_1 := cellK cc_1 hb
            replace cconfidence_0 := cellK cconfidence_0 hb
            replace cconfidence_1 := cellK cconfidence_1 hb
            clear hb
            try go_wp2_with fail
            refine hK.out _ _ ⟨cc_0, cc_1, cconfidence_0, cconfidence_1⟩ (fun hH => ?_)
            clear hK K
            try simp only [Act.put, List.setIfInBounds_toArray, List.set_cons_zero, List.set_cons_succ]
            refine U_take (i := 5) (v := ?_) rfl (by kernel_rfl) (by kernel_rfl) (by kernel_rfl) (by kernel_rfl) (fun _ _ _ h => h) (Or.inl ⟨by rfl, ?_⟩) hH ?_
            rotate_left
            · intro w hSw
              try dsimp only at hSw
              go_simp
              try with_reducible rfl
            try simp only [Act.put, List.setIfInBounds_toArray, List.set_cons_zero, List.set_cons_succ]
            refine U_take (i := 6) (v := ?_) rfl (by kernel_rfl) (by kernel_rfl) (by kernel_rfl) (by kernel_rfl) (fun _ _ _ h => h) (Or.inl ⟨by rfl, ?_⟩) hH ?_
            rotate_left
            · intro w hSw
              try dsimp only at hSw
              go_simp
              try with_reducible rfl
            try simp only [Act.put, List.setIfInBounds_toArray, List.set_cons_zero, List.set_cons_succ]
            refine U_take (i := 7) (v := ?_) rfl (by kernel_rfl) (by kernel_rfl) (by kernel_rfl) (by kernel_rfl) (fun _ _ _ h => h) (Or.inl ⟨by rfl, ?_⟩) hH ?_
            rotate_left
            · intro w hSw
              try dsimp only at hSw
              go_simp
              try with_reducible rfl
            try simp only [Act.put, List.setIfInBounds_toArray, List.set_cons_zero, List.set_cons_succ]
            clear hH
            have cy_0 : w8.cell? ⟨w5.heap.size, 0, none⟩ = some (.bool false) := Bly.at 0 rfl
            have cy_1 : w8.cell? ⟨w5.heap.size, 1, none⟩ = some (.slice none 0 0) := Bly.at 1 rfl
            have cy_2 : w8.cell? ⟨w5.heap.size, 2, none⟩ = some (.slice none 0 0) := Bly.at 2 rfl
            have cy_3 : w8.cell? ⟨w5.heap.size, 3, none⟩ = some (.bool false) := Bly.at 3 rfl
            have cy_4 : w8.cell? ⟨w5.heap.size, 4, none⟩ = some (.slice none 0 0) := Bly.at 4 rfl
            have cy_5 : w8.cell? ⟨w5.heap.size, 5, none⟩ = some (.slice none 0 0) := Bly.at 5 rfl
            have fy := Bly.free
            have Ly : w5.heap.size < w8.heap.size := Bly.lt
            refine U_one (i := 9) (by kernel_rfl) rfl (fun K hK => ?_)
            go_simp
            generalize hW_ : ((((((w8.setCell ⟨w5.heap.size, 0, none⟩ (.bool sh8a)).setCell ⟨w5.heap.size, 1, none⟩ (.slice ah8a nh8a ch8a)).setCell ⟨w5.heap.size, 2, none⟩ (.slice Ah8a Nh8a Ch8a)).setCell ⟨w5.heap.size, 3, none⟩ (.bool sh8b)).setCell ⟨w5.heap.size, 4, none⟩ (.slice ah8b nh8b ch8b)).setCell ⟨w5.heap.size, 5, none⟩ (.slice Ah8b Nh8b Ch8b)) = w9
            have hW := hW_.symm
            clear hW_
            have hG : Gr [w5.heap.size] w8 w9 := by rw [hW]; exact (Gr.refl _ _).set.set.set.set.set.set
            have hsz := hs.size
            have ly := Bly.lt
            have hbw : Below w.heap.size w8 w9 := hG.below1 hs.size (by first | omega | assumption)
            have hk : KeepD w8 w9 := hG.keep ⟨⟨_, Bly.ty, by decide⟩, True.intro⟩
            have Bl1y : Bx w9 (w5.heap.size) 63 #[.bool sh8a, .slice ah8a nh8a ch8a, .slice Ah8a Nh8a Ch8a, .bool sh8b, .slice ah8b nh8b ch8b, .slice Ah8b Nh8b Ch8b] := by rw [hW]; exact Bly.set6
            replace hs := hs.trans hbw
            replace Blc := hG.bx Blc (notMem1 (by omega))
            replace Blconfidence := hG.bx Blconfidence (notMem1 (by omega))
            replace Blls := hG.bx Blls (notMem1 (by omega))
            replace Blx := hG.bx Blx (notMem1 (by omega))
            replace Bly := Bl1y
            clear Bl1y
            replace h6a := h6a.keep hk
            replace h6b := h6b.keep hk
            replace h7 := h7.keep hk
            replace h8a := h8a.keep hk
            replace h8b := h8b.keep hk
            replace cc_0 := hG.cell cc_0 (notMem1 (by dsimp only; omega))
            replace cc_1 := hG.cell cc_1 (notMem1 (by dsimp only; omega))
            replace cconfidence_0 := hG.cell cconfidence_0 (notMem1 (by dsimp only; omega))
            replace cconfidence_1 := hG.cell cconfidence_1 (notMem1 (by dsimp only; omega))
            clear hW hG hk hbw hsz ly
            refine hK.out _ _ ⟨cc_0, cc_1, cconfidence_0, cconfidence_1⟩ (fun hH => ?_)
            clear hK K
            try simp only [Act.put, List.setIfInBounds_toArray, List.set_cons_zero, List.set_cons_succ]
            clear hH
            refine U_last (by kernel_rfl) rfl (by kernel_rfl) (fun K hK => ?_)
            go_simp
            refine hK.out _ _ ?_
            clear hK K
            intro wl hW
            rw [hW]
            clear hW wl
            try simp only [Act.put, List.setIfInBounds_toArray, List.set_cons_zero, List.set_cons_succ]
            clear cc_0 cc_1 cconfidence_0 cconfidence_1
            go_wp2_with fail
            go_meet
            exact ⟨w5.heap.size, _, _, _, _, _, _, _, _, _, _, _, _, _, _, rfl, rfl, (by first | exact sz_y | omega), (by omega), (by omega), (by omega), (by omega), Bly, hs, Blc, Blconfidence, Blls, Blx, h6a, h6b, h8a, h8b⟩
        case rest =>
          clear hs Blc Blconfidence Blls Blx h6a h6b
          obtain ⟨gy, sh8a, ah8a, nh8a, ch8a, Ah8a, Nh8a, Ch8a, sh8b, ah8b, nh8b, ch8b, Ah8b, Nh8b, Ch8b, rfl, rfl, hg_y, ng_y_c, ng_y_confidence, ng_y_ls, ng_y_x, Bly, hs, Blc, Blconfidence, Blls, Blx, h6a, h6b, h8a, h8b⟩ := hcut
          have q9b : (e == e) = true := beq_self_eq_true _
          have q9n : (e != e) = false := bne_self_eq_false _
          have cx_0 : wc.cell? ⟨gx, 0, none⟩ = some (.bool sh6a) := Blx.at 0 rfl
          have cx_1 : wc.cell? ⟨gx, 1, none⟩ = some (.slice ah6a nh6a ch6a) := Blx.at 1 rfl
          have cx_2 : wc.cell? ⟨gx, 2, none⟩ = some (.slice Ah6a Nh6a Ch6a) := Blx.at 2 rfl
          have cx_3 : wc.cell? ⟨gx, 3, none⟩ = some (.bool sh6b) := Blx.at 3 rfl
          have cx_4 : wc.cell? ⟨gx, 4, none⟩ = some (.slice ah6b nh6b ch6b) := Blx.at 4 rfl
          have cx_5 : wc.cell? ⟨gx, 5, none⟩ = some (.slice Ah6b Nh6b Ch6b) := Blx.at 5 rfl
          have Lx : gx < wc.heap.size := Blx.lt
          have cy_0 : wc.cell? ⟨gy, 0, none⟩ = some (.bool sh8a) := Bly.at 0 rfl
          have cy_1 : wc.cell? ⟨gy, 1, none⟩ = some (.slice ah8a nh8a ch8a) := Bly.at 1 rfl
          have cy_2 : wc.cell? ⟨gy, 2, none⟩ = some (.slice Ah8a Nh8a Ch8a) := Bly.at 2 rfl
          have cy_3 : wc.cell? ⟨gy, 3, none⟩ = some (.bool sh8b) := Bly.at 3 rfl
          have cy_4 : wc.cell? ⟨gy, 4, none⟩ = some (.slice ah8b nh8b ch8b) := Bly.at 4 rfl
          have cy_5 : wc.cell? ⟨gy, 5, none⟩ = some (.slice Ah8b Nh8b Ch8b) := Bly.at 5 rfl
          have Ly : gy < wc.heap.size := Bly.lt
          go_wp2_with fail
          clear cx_0 cx_1 cx_2 cx_3 cx_4 cx_5 cy_0 cy_1 cy_2 cy_3 cy_4 cy_5 Lx Ly
          with_reducible refine (l1_IsRange _ (PV2.mk h6a h6b) (RV2.mk h8a h8b) ((dt_sz kk).1.mono (show 1 ≤ 100 by omega)) ((dt_sz kk).2.mono (show 1 ≤ 100 by omega))).mono ?_
          rintro e w5 ⟨rfl, hb⟩
          replace hs := bStep hs hb
          replace Blc := Blc.mono hb
          replace Blconfidence := Blconfidence.mono hb
          replace Blls := Blls.mono hb
          replace Blx := Blx.mono hb
          replace Bly := Bly.mono hb
          replace h6a := h6a.mono hb
          replace h6b := h6b.mono hb
          replace h8a := h8a.mono hb
          replace h8b := h8b.mono hb
          clear hb
          go_wp2
          go_ret
          exact ⟨rfl, hs⟩
  · have q3d : ((12 : Int) < n) = False := eq_false (by omega)
    have cc_0 : w4.cell? ⟨w.heap.size, 0, none⟩ = some (.int .i64 n) := Blc.at 0 rfl
    have cc_1 : w4.cell? ⟨w.heap.size, 1, none⟩ = some (.int .i64 f) := Blc.at 1 rfl
    have Lc : w.heap.size < w4.heap.size := Blc.lt
    go_upto_if 31 with (fail)
    clear cc_0 cc_1 Lc
    go_cut [2] (fun kv wz => kv = .int .i64 kk ∧ Below w.heap.size w wz ∧ Bx wz (w.heap.size) 57 #[.int .i64 n, .int .i64 f] ∧ Bx wz (w.heap.size + 1) 23 #[.int .i64 n1, .int .i64 d1] ∧ Bx wz (w2.heap.size) 23 #[.int .i64 n1, .int .i64 d1])
    case first => as_aux_lemma =>
      by_cases q4 : 6 < k
      · have q4d : ((6 : Int) < k) = True := eq_true (by omega)
        try simp only [q4b, q4n]
        go_wp2_with fail
        go_meet
        exact ⟨congrArg _ (by omega), hs, Blc, Blconfidence, Blls⟩
      · have q4d : ((6 : Int) < k) = False := eq_false (by omega)
        try simp only [q4b, q4n]
        go_wp2_with fail
        go_meet
        exact ⟨congrArg _ (by omega), hs, Blc, Blconfidence, Blls⟩
    case rest =>
      clear hs Blc Blconfidence Blls
      obtain ⟨rfl, hs, Blc, Blconfidence, Blls⟩ := hcut
      go_upto_region 5 with fail
      go_cut [7, 8] (fun kv0 kx0 wz => ∃ gx sh5a ah5a nh5a ch5a Ah5a Nh5a Ch5a sh5b ah5b nh5b ch5b Ah5b Nh5b Ch5b, kv0 = .pointer (some ⟨gx, 0, none⟩) ∧ kx0 = .int .i64 e ∧ w.heap.size ≤ gx ∧ gx ≠ w.heap.size ∧ gx ≠ (w.heap.size + 1) ∧ gx ≠ w2.heap.size ∧ Bx wz gx 59 #[.bool sh5a, .slice ah5a nh5a ch5a, .slice Ah5a Nh5a Ch5a, .bool sh5b, .slice ah5b nh5b ch5b, .slice Ah5b Nh5b Ch5b] ∧ Below w.heap.size w wz ∧ Bx wz (w.heap.size) 57 #[.int .i64 n, .int .i64 f] ∧ Bx wz (w.heap.size + 1) 23 #[.int .i64 n1, .int .i64 d1] ∧ Bx wz (w2.heap.size) 23 #[.int .i64 n1, .int .i64 d1] ∧ PV wz (.agg #[.bool sh5a, .slice ah5a nh5a ch5a, .slice Ah5a Nh5a Ch5a]) (dtLo n f u kk) ∧ PV wz (.agg #[.bool sh5b, .slice ah5b nh5b ch5b, .slice Ah5b Nh5b Ch5b]) (dtHi n f u kk))
      case first => as_aux_lemma =>
        refine U_region (S := fun w' => w'.cell? ⟨w.heap.size, 0, none⟩ = some (.int .i64 n) ∧ w'.cell? ⟨w.heap.size, 1, none⟩ = some (.int .i64 f) ∧ w'.cell? ⟨w.heap.size + 1, 0, none⟩ = some (.int .i64 n1) ∧ w'.cell? ⟨w.heap.size + 1, 1, none⟩ = some (.int .i64 d1)) (by kernel_rfl) 10 ?_
        refine AnyU.abs ?_
        intro w5 hW
        have hb : Below wc.heap.size wc w5 := by rw [hW]; exact bDrew _
        replace hs := bStep hs hb
        replace Blc := Blc.mono hb
        replace Blconfidence := Blconfidence.mono hb
        replace Blls := Blls.mono hb
        clear hb hW
        have cc_0 : w5.cell? ⟨w.heap.size, 0, none⟩ = some (.int .i64 n) := Blc.at 0 rfl
        have cc_1 : w5.cell? ⟨w.heap.size, 1, none⟩ = some (.int .i64 f) := Blc.at 1 rfl
        have cconfidence_0 : w5.cell? ⟨w.heap.size + 1, 0, none⟩ = some (.int .i64 n1) := Blconfidence.at 0 rfl
        have cconfidence_1 : w5.cell? ⟨w.heap.size + 1, 1, none⟩ = some (.int .i64 d1) := Blconfidence.at 1 rfl
        have hH := (show w5.cell? ⟨w.heap.size, 0, none⟩ = some (.int .i64 n) ∧ w5.cell? ⟨w.heap.size, 1, none⟩ = some (.int .i64 f) ∧ w5.cell? ⟨w.heap.size + 1, 0, none⟩ = some (.int .i64 n1) ∧ w5.cell? ⟨w.heap.size + 1, 1, none⟩ = some (.int .i64 d1) from ⟨cc_0, cc_1, cconfidence_0, cconfidence_1⟩)
        refine U_take (i := 0) (v := ?_) rfl (by kernel_rfl) (by kernel_rfl) (by kernel_rfl) (by kernel_rfl) (fun _ _ _ h => h) (Or.inl ⟨by rfl, ?_⟩) hH ?_
        rotate_left
        · intro w hSw
          try dsimp only at hSw
          go_simp
          try with_reducible rfl
        try simp only [Act.put, List.setIfInBounds_toArray, List.set_cons_zero, List.set_cons_succ]
        refine U_take (i := 1) (v := ?_) rfl (by kernel_rfl) (by kernel_rfl) (by kernel_rfl) (by kernel_rfl) (fun _ _ _ h => h) (Or.inl ⟨by rfl, ?_⟩) hH ?_
        rotate_left
        · intro w hSw
          try dsimp only at hSw
          go_simp
          try with_reducible rfl
        try simp only [Act.put, List.setIfInBounds_toArray, List.set_cons_zero, List.set_cons_succ]
        refine U_take (i := 3) (v := ?_) rfl (by kernel_rfl) (by kernel_rfl) (by kernel_rfl) (by kernel_rfl) (fun _ _ _ h => h) (Or.inl ⟨by rfl, ?_⟩) hH ?_
        rotate_left
        · intro w hSw
          try dsimp only at hSw
          go_simp
          try with_reducible rfl
        try simp only [Act.put, List.setIfInBounds_toArray, List.set_cons_zero, List.set_cons_succ]
        refine U_two (i := 2) (j := 8) (by kernel_rfl) rfl rfl (fun K hK => ?_) (fun K hK => ?_)
        · clear hH
          go_simp
          (with_reducible refine (l1_OfD _ O1.out HU.out).mono ?_)
          rintro e w6 ⟨_, rfl, h4, hb⟩
          obtain ⟨sh4, ah4, nh4, ch4, Ah4, Nh4, Ch4, rfl⟩ := h4.shape
          replace hs := bStep hs hb
          replace Blc := Blc.mono hb
          replace Blconfidence := Blconfidence.mono hb
          replace Blls := Blls.mono hb
          replace cc_0 := cellK cc_0 hb
          replace cc_1 := cellK cc_1 hb
          replace cconfidence_0 := cellK cconfidence_0 hb
          replace cconfidence_1 := cellK cconfidence_1 hb
          clear hb
          try go_wp2_with fail
          refine hK.out _ _ ⟨cc_0, cc_1, cconfidence_0, cconfidence_1⟩ (fun hH => ?_)
          clear hK K
          try simp only [Act.put, List.setIfInBounds_toArray, List.set_cons_zero, List.set_cons_succ]
          refine U_two (i := 4) (j := 8) (by kernel_rfl) rfl rfl (fun K hK => ?_) (fun K hK => ?_)
          · clear hH
            go_simp
            (with_reducible refine (al_Det_all (k := kk) _ h4 su (by omega) rfl rfl HE.out).mono ?_)
            rintro e w7 ⟨_, _, rfl, h5, rfl, hb⟩
            obtain ⟨sh5a, ah5a, nh5a, ch5a, Ah5a, Nh5a, Ch5a, sh5b, ah5b, nh5b, ch5b, Ah5b, Nh5b, Ch5b, rfl, h5a, h5b⟩ := h5.shape
            replace hs := bStep hs hb
            replace Blc := Blc.mono hb
            replace Blconfidence := Blconfidence.mono hb
            replace Blls := Blls.mono hb
            replace h4 := h4.mono hb
            replace cc_0 := cellK cc_0 hb
            replace cc_1 := cellK cc_1 hb
            replace cconfidence_0 := cellK cconfidence_0 hb
            replace cconfidence_1 := cellK cconfidence_1 hb
            clear hb
            try go_wp2_with fail
            refine hK.out _ _ ⟨cc_0, cc_1, cconfidence_0, cconfidence_1⟩ (fun hH => ?_)
            clear hK K
            try simp only [Act.put, List.setIfInBounds_toArray, List.set_cons_zero, List.set_cons_succ]
            refine U_take (i := 5) (v := ?_) rfl (by kernel_rfl) (by kernel_rfl) (by kernel_rfl) (by kernel_rfl) (fun _ _ _ h => h) (Or.inl ⟨by rfl, ?_⟩) hH ?_
            rotate_left
            · intro w hSw
              try dsimp only at hSw
              go_simp
              try with_reducible rfl
            try simp only [Act.put, List.setIfInBounds_toArray, List.set_cons_zero, List.set_cons_succ]
            refine U_take (i := 6) (v := ?_) rfl (by kernel_rfl) (by kernel_rfl) (by kernel_rfl) (by kernel_rfl) (fun _ _ _ h => h) (Or.inl ⟨by rfl, ?_⟩) hH ?_
            rotate_left
            · intro w hSw
              try dsimp only at hSw
              go_simp
              try with_reducible rfl
            try simp only [Act.put, List.setIfInBounds_toArray, List.set_cons_zero, List.set_cons_succ]
            refine U_take (i := 7) (v := ?_) rfl (by kernel_rfl) (by kernel_rfl) (by kernel_rfl) (by kernel_rfl) (fun _ _ _ h => h) (Or.inl ⟨by rfl, ?_⟩) hH ?_
            rotate_left
            · intro w hSw
              try dsimp only at hSw
              go_simp
              try with_reducible rfl
            try simp only [Act.put, List.setIfInBounds_toArray, List.set_cons_zero, List.set_cons_succ]
            clear hH
            refine U_one (i := 8) (by kernel_rfl) rfl (fun K hK => ?_)
            go_simp
            generalize hWn : (w7.alloc (.cells #[.bool false, .slice none 0 0, .slice none 0 0, .bool false, .slice none 0 0, .slice none 0 0] 59)) = w8
            have hb : Below w7.heap.size w7 w8 := by rw [← hWn]; exact (Below.refl _ _).alloc (Nat.le_refl _) _
            have Blx : Bx w8 (w7.heap.size) 59 #[.bool false, .slice none 0 0, .slice none 0 0, .bool false, .slice none 0 0, .slice none 0 0] := by rw [← hWn]; exact Bx.new _ _ _
            have nc_x : w.heap.size ≠ w7.heap.size := by have := Blc.lt; omega
            have nconfidence_x : w.heap.size + 1 ≠ w7.heap.size := by have := Blconfidence.lt; omega
            have nls_x : w2.heap.size ≠ w7.heap.size := by have := Blls.lt; omega
            have sz_x : w.heap.size ≤ w7.heap.size := hs.size
            replace hs := bStep hs hb
            replace Blc := Blc.mono hb
            replace Blconfidence := Blconfidence.mono hb
            replace Blls := Blls.mono hb
            replace h4 := h4.mono hb
            replace h5a := h5a.mono hb
            replace h5b := h5b.mono hb
            replace cc_0 := cellK cc_0 hb
            replace cc_1 := cellK cc_1 hb
            replace cconfidence_0 := cellK cconfidence_0 hb
            replace cconfidence_1 := cellK cconfidence_1 hb
            clear hb hWn
            refine hK.out _ _ ⟨cc_0, cc_1, cconfidence_0, cconfidence_1⟩ (fun hH => ?_)
            clear hK K
            try simp only [Act.put, List.setIfInBounds_toArray, List.set_cons_zero, List.set_cons_succ]
            clear hH
            have cx_0 : w8.cell? ⟨w7.heap.size, 0, none⟩ = some (.bool false) := Blx.at 0 rfl
            have cx_1 : w8.cell? ⟨w7.heap.size, 1, none⟩ = some (.slice none 0 0) := Blx.at 1 rfl
            have cx_2 : w8.cell? ⟨w7.heap.size, 2, none⟩ = some (.slice none 0 0) := Blx.at 2 rfl
            have cx_3 : w8.cell? ⟨w7.heap.size, 3, none⟩ = some (.bool false) := Blx.at 3 rfl
            have cx_4 : w8.cell? ⟨w7.heap.size, 4, none⟩ = some (.slice none 0 0) := Blx.at 4 rfl
            have cx_5 : w8.cell? ⟨w7.heap.size, 5, none⟩ = some (.slice none 0 0) := Blx.at 5 rfl
            have fx := Blx.free
            have Lx : w7.heap.size < w8.heap.size := Blx.lt
            refine U_one (i := 9) (by kernel_rfl) rfl (fun K hK => ?_)
            go_simp
            generalize hW_ : ((((((w8.setCell ⟨w7.heap.size, 0, none⟩ (.bool sh5a)).setCell ⟨w7.heap.size, 1, none⟩ (.slice ah5a nh5a ch5a)).setCell ⟨w7.heap.size, 2, none⟩ (.slice Ah5a Nh5a Ch5a)).setCell ⟨w7.heap.size, 3, none⟩ (.bool sh5b)).setCell ⟨w7.heap.size, 4, none⟩ (.slice ah5b nh5b ch5b)).setCell ⟨w7.heap.size, 5, none⟩ (.slice Ah5b Nh5b Ch5b)) = w9
            have hW := hW_.symm
            clear hW_
            have hG : Gr [w7.heap.size] w8 w9 := by rw [hW]; exact (Gr.refl _ _).set.set.set.set.set.set
            have hsz := hs.size
            have lx := Blx.lt
            have hbw : Below w.heap.size w8 w9 := hG.below1 hs.size (by first | omega | assumption)
            have hk : KeepD w8 w9 := hG.keep ⟨⟨_, Blx.ty, by decide⟩, True.intro⟩
            have Bl1x : Bx w9 (w7.heap.size) 59 #[.bool sh5a, .slice ah5a nh5a ch5a, .slice Ah5a Nh5a Ch5a, .bool sh5b, .slice ah5b nh5b ch5b, .slice Ah5b Nh5b Ch5b] := by rw [hW]; exact Blx.set6
            replace hs := hs.trans hbw
            replace Blc := hG.bx Blc (notMem1 (by omega))
            replace Blconfidence := hG.bx Blconfidence (notMem1 (by omega))
            replace Blls := hG.bx Blls (notMem1 (by omega))
            replace Blx := Bl1x
            clear Bl1x
            replace h4 := h4.keep hk
            replace h5a := h5a.keep hk
            replace h5b := h5b.keep hk
            replace cc_0 := hG.cell cc_0 (notMem1 (by dsimp only; omega))
            replace cc_1 := hG.cell cc_1 (notMem1 (by dsimp only; omega))
            replace cconfidence_0 := hG.cell cconfidence_0 (notMem1 (by dsimp only; omega))
            replace cconfidence_1 := hG.cell cconfidence_1 (notMem1 (by dsimp only; omega))
            clear hW hG hk hbw hsz lx
            refine hK.out _ _ ⟨cc_0, cc_1, cconfidence_0, cconfidence_1⟩ (fun hH => ?_)
            clear hK K
            try simp only [Act.put, List.setIfInBounds_toArray, List.set_cons_zero, List.set_cons_succ]
            clear hH
            refine U_last (by kernel_rfl) rfl (by kernel_rfl) (fun K hK => ?_)
            go_simp
            refine hK.out _ _ ?_
            clear hK K
            intro wl hW
            rw [hW]
            clear hW wl
            try simp only [Act.put, List.setIfInBounds_toArray, List.set_cons_zero, List.set_cons_succ]
            clear cc_0 cc_1 cconfidence_0 cconfidence_1
            go_wp2_with fail
            go_meet
            exact ⟨w7.heap.size, _, _, _, _, _, _, _, _, _, _, _, _, _, _, rfl, rfl, (by first | exact sz_x | omega), (by omega), (by omega), (by omega), Blx, hs, Blc, Blconfidence, Blls, h5a, h5b⟩
          · clear hH
            go_simp
            generalize hWn : (w6.alloc (.cells #[.bool false, .slice none 0 0, .slice none 0 0, .bool false, .slice none 0 0, .slice none 0 0] 59)) = w7
            have hb : Below w6.heap.size w6 w7 := by rw [← hWn]; exact (Below.refl _ _).alloc (Nat.le_refl _) _
            have Blx : Bx w7 (w6.heap.size) 59 #[.bool false, .slice none 0 0, .slice none 0 0, .bool false, .slice none 0 0, .slice none 0 0] := by rw [← hWn]; exact Bx.new _ _ _
            have nc_x : w.heap.size ≠ w6.heap.size := by have := Blc.lt; omega
            have nconfidence_x : w.heap.size + 1 ≠ w6.heap.size := by have := Blconfidence.lt; omega
            have nls_x : w2.heap.size ≠ w6.heap.size := by have := Blls.lt; omega
            have sz_x : w.heap.size ≤ w6.heap.size := hs.size
            replace hs := bStep hs hb
            replace Blc := Blc.mono hb
            replace Blconfidence := Blconfidence.mono hb
            replace Blls := Blls.mono hb
            replace h4 := h4.mono hb
            replace cc_0 := cellK cc_0 hb
            replace cc_1 := cellK cc_1 hb
            replace cconfidence_0 := cellK cconfidence_0 hb
            replace cconfidence_1 := cellK cconfidence_1 hb
            clear hb hWn
            refine hK.out _ _ ⟨cc_0, cc_1, cconfidence_0, cconfidence_1⟩ (fun hH => ?_)
            clear hK K
            try simp only [Act.put, List.setIfInBounds_toArray, List.set_cons_zero, List.set_cons_succ]
            clear hH
            refine U_one (i := 4) (by kernel_rfl) rfl (fun K hK => ?_)
            go_simp
            (with_reducible refine (al_Det_all (k := kk) _ h4 su (by omega) rfl rfl HE.out).mono ?_)
            rintro e w8 ⟨_, _, rfl, h5, rfl, hb⟩
            obtain ⟨sh5a, ah5a, nh5a, ch5a, Ah5a, Nh5a, Ch5a, sh5b, ah5b, nh5b, ch5b, Ah5b, Nh5b, Ch5b, rfl, h5a, h5b⟩ := h5.shape
            replace hs := bStep hs hb
            replace Blc := Blc.mono hb
            replace Blconfidence := Blconfidence.mono hb
            replace Blls := Blls.mono hb
            replace Blx := Blx.mono hb
            replace h4 := h4.mono hb
            replace cc_0 := cellK cc_0 hb
            replace cc_1 := cellK cc_1 hb
            replace cconfidence_0 := cellK cconfidence_0 hb
            replace cconfidence_1 := cellK cconfidence_1 hb
            clear hb
            try go_wp2_with fail
            refine hK.out _ _ ⟨cc_0, cc_1, cconfidence_0, cconfidence_1⟩ (fun hH => ?_)
            clear hK K
            try simp only [Act.put, List.setIfInBounds_toArray, List.set_cons_zero, List.set_cons_succ]
            refine U_take (i := 5) (v := ?_) rfl (by kernel_rfl) (by kernel_rfl) (by kernel_rfl) (by kernel_rfl) (fun _ _ _ h => h) (Or.inl ⟨by rfl, ?_⟩) hH ?_
            rotate_left
            · intro w hSw
              try dsimp only at hSw
              go_simp
              try with_reducible rfl
            try simp only [Act.put, List.setIfInBounds_toArray, List.set_cons_zero, List.set_cons_succ]
            refine U_take (i := 6) (v := ?_) rfl (by kernel_rfl) (by kernel_rfl) (by kernel_rfl) (by kernel_rfl) (fun _ _ _ h => h) (Or.inl ⟨by rfl, ?_⟩) hH ?_
            rotate_left
            · intro w hSw
              try dsimp only at hSw
              go_simp
              try with_reducible rfl
            try simp only [Act.put, List.setIfInBounds_toArray, List.set_cons_zero, List.set_cons_succ]
            refine U_take (i := 7) (v := ?_) rfl (by kernel_rfl) (by kernel_rfl) (by kernel_rfl) (by kernel_rfl) (fun _ _ _ h => h) (Or.inl ⟨by rfl, ?_⟩) hH ?_
            rotate_left
            · intro w hSw
              try dsimp only at hSw
              go_simp
              try with_reducible rfl
            try simp only [Act.put, List.setIfInBounds_toArray, List.set_cons_zero, List.set_cons_succ]
            clear hH
            have cx_0 : w8.cell? ⟨w6.heap.size, 0, none⟩ = some (.bool false) := Blx.at 0 rfl
            have cx_1 : w8.cell? ⟨w6.heap.size, 1, none⟩ = some (.slice none 0 0) := Blx.at 1 rfl
            have cx_2 : w8.cell? ⟨w6.heap.size, 2, none⟩ = some (.slice none 0 0) := Blx.at 2 rfl
            have cx_3 : w8.cell? ⟨w6.heap.size, 3, none⟩ = some (.bool false) := Blx.at 3 rfl
            have cx_4 : w8.cell? ⟨w6.heap.size, 4, none⟩ = some (.slice none 0 0) := Blx.at 4 rfl
            have cx_5 : w8.cell? ⟨w6.heap.size, 5, none⟩ = some (.slice none 0 0) := Blx.at 5 rfl
            have fx := Blx.free
            have Lx : w6.heap.size < w8.heap.size := Blx.lt
            refine U_one (i := 9) (by kernel_rfl) rfl (fun K hK => ?_)
            go_simp
            generalize hW_ : ((((((w8.setCell ⟨w6.heap.size, 0, none⟩ (.bool sh5a)).setCell ⟨w6.heap.size, 1, none⟩ (.slice ah5a nh5a ch5a)).setCell ⟨w6.heap.size, 2, none⟩ (.slice Ah5a Nh5a Ch5a)).setCell ⟨w6.heap.size, 3, none⟩ (.bool sh5b)).setCell ⟨w6.heap.size, 4, none⟩ (.slice ah5b nh5b ch5b)).setCell ⟨w6.heap.size, 5, none⟩ (.slice Ah5b Nh5b Ch5b)) = w9
            have hW := hW_.symm
            clear hW_
            have hG : Gr [w6.heap.size] w8 w9 := by rw [hW]; exact (Gr.refl _ _).set.set.set.set.set.set
            have hsz := hs.size
            have lx := Blx.lt
            have hbw : Below w.heap.size w8 w9 := hG.below1 hs.size (by first | omega | assumption)
            have hk : KeepD w8 w9 := hG.keep ⟨⟨_, Blx.ty, by decide⟩, True.intro⟩
            have Bl1x : Bx w9 (w6.heap.size) 59 #[.bool sh5a, .slice ah5a nh5a ch5a, .slice Ah5a Nh5a Ch5a, .bool sh5b, .slice ah5b nh5b ch5b, .slice Ah5b Nh5b Ch5b] := by rw [hW]; exact Blx.set6
            replace hs := hs.trans hbw
            replace Blc := hG.bx Blc (notMem1 (by omega))
            replace Blconfidence := hG.bx Blconfidence (notMem1 (by omega))
            replace Blls := hG.bx Blls (notMem1 (by omega))
            replace Blx := Bl1x
            clear Bl1x
            replace h4 := h4.keep hk
            replace h5a := h5a.keep hk
            replace h5b := h5b.keep hk
            replace cc_0 := hG.cell cc_0 (notMem1 (by dsimp only; omega))
            replace cc_1 := hG.cell cc_1 (notMem1 (by dsimp only; omega))
            replace cconfidence_0 := hG.cell cconfidence_0 (notMem1 (by dsimp only; omega))
            replace cconfidence_1 := hG.cell cconfidence_1 (notMem1 (by dsimp only; omega))
            clear hW hG hk hbw hsz lx
            refine hK.out _ _ ⟨cc_0, cc_1, cconfidence_0, cconfidence_1⟩ (fun hH => ?_)
            clear hK K
            try simp only [Act.put, List.setIfInBounds_toArray, List.set_cons_zero, List.set_cons_succ]
            clear hH
            refine U_last (by kernel_rfl) rfl (by kernel_rfl) (fun K hK => ?_)
            go_simp
            refine hK.out _ _ ?_
            clear hK K
            intro wl hW
            rw [hW]
            clear hW wl
            try simp only [Act.put, List.setIfInBounds_toArray, List.set_cons_zero, List.set_cons_succ]
            clear cc_0 cc_1 cconfidence_0 cconfidence_1
            go_wp2_with fail
            go_meet
            exact ⟨w6.heap.size, _, _, _, _, _, _, _, _, _, _, _, _, _, _, rfl, rfl, (by first | exact sz_x | omega), (by omega), (by omega), (by omega), Blx, hs, Blc, Blconfidence, Blls, h5a, h5b⟩
        · clear hH
          go_simp
          generalize hWn : (w5.alloc (.cells #[.bool false, .slice none 0 0, .slice none 0 0, .bool false, .slice none 0 0, .slice none 0 0] 59)) = w6
          have hb : Below w5.heap.size w5 w6 := by rw [← hWn]; exact (Below.refl _ _).alloc (Nat.le_refl _) _
          have Blx : Bx w6 (w5.heap.size) 59 #[.bool false, .slice none 0 0, .slice none 0 0, .bool false, .slice none 0 0, .slice none 0 0] := by rw [← hWn]; exact Bx.new _ _ _
          have nc_x : w.heap.size ≠ w5.heap.size := by have := Blc.lt; omega
          have nconfidence_x : w.heap.size + 1 ≠ w5.heap.size := by have := Blconfidence.lt; omega
          have nls_x : w2.heap.size ≠ w5.heap.size := by have := Blls.lt; omega
          have sz_x : w.heap.size ≤ w5.heap.size := hs.size
          replace hs := bStep hs hb
          replace Blc := Blc.mono hb
          replace Blconfidence := Blconfidence.mono hb
          replace Blls := Blls.mono hb
          replace cc_0 := cellK cc_0 hb
          replace cc_1 := cellK cc_1 hb
          replace cconfidence_0 := cellK cconfidence_0 hb
          replace cconfidence_1 := cellK cconfidence_1 hb
          clear hb hWn
          refine hK.out _ _ ⟨cc_0, cc_1, cconfidence_0, cconfidence_1⟩ (fun hH => ?_)
          clear hK K
          try simp only [Act.put, List.setIfInBounds_toArray, List.set_cons_zero, List.set_cons_succ]
          clear hH
          refine U_one (i := 2) (by kernel_rfl) rfl (fun K hK => ?_)
          go_simp
          (with_reducible refine (l1_OfD _ O1.out HU.out).mono ?_)
          rintro e w7 ⟨_, rfl, h4, hb⟩
          obtain ⟨sh4, ah4, nh4, ch4, Ah4, Nh4, Ch4, rfl⟩ := h4.shape
          replace hs := bStep hs hb
          replace Blc := Blc.mono hb
          replace Blconfidence := Blconfidence.mono hb
          replace Blls := Blls.mono hb
          replace Blx := Blx.mono hb
          replace cc_0 := cellK cc_0 hb
          replace cc_1 := cellK cc_1 hb
          replace cconfidence_0 := cellK cconfidence_0 hb
          replace cconfidence_1 := cellK cconfidence_1 hb
          clear hb
          try go_wp2_with fail
          refine hK.out _ _ ⟨cc_0, cc_1, cconfidence_0, cconfidence_1⟩ (fun hH => ?_)
          clear hK K
          try simp only [Act.put, List.setIfInBounds_toArray, List.set_cons_zero, List.set_cons_succ]
          clear hH
          refine U_one (i := 4) (by kernel_rfl) rfl (fun K hK => ?_)
          go_simp
          (with_reducible refine (al_Det_all (k := kk) _ h4 su (by omega) rfl rfl HE.out).mono ?_)
          rintro e w8 ⟨_, _, rfl, h5, rfl, hb⟩
          obtain ⟨sh5a, ah5a, nh5a, ch5a, Ah5a, Nh5a, Ch5a, sh5b, ah5b, nh5b, ch5b, Ah5b, Nh5b, Ch5b, rfl, h5a, h5b⟩ := h5.shape
          replace hs := bStep hs hb
          replace Blc := Blc.mono hb
          replace Blconfidence := Blconfidence.mono hb
          replace Blls := Blls.mono hb
          replace Blx := Blx.mono hb
          replace h4 := h4.mono hb
          replace cc_0 := cellK cc_0 hb
          replace cc_1 := cellK cc_1 hb
          replace cconfidence_0 := cellK cconfidence_0 hb
          replace cconfidence_1 := cellK cconfidence_1 hb
          clear hb
          try go_wp2_with fail
          refine hK.out _ _ ⟨cc_0, cc_1, cconfidence_0, cconfidence_1⟩ (fun hH => ?_)
          clear hK K
          try simp only [Act.put, List.setIfInBounds_toArray, List.set_cons_zero, List.set_cons_succ]
          refine U_take (i := 5) (v := ?_) rfl (by kernel_rfl) (by kernel_rfl) (by kernel_rfl) (by kernel_rfl) (fun _ _ _ h => h) (Or.inl ⟨by rfl, ?_⟩) hH ?_
          rotate_left
          · intro w hSw
            try dsimp only at hSw
            go_simp
            try with_reducible rfl
          try simp only [Act.put, List.setIfInBounds_toArray, List.set_cons_zero, List.set_cons_succ]
          refine U_take (i := 6) (v := ?_) rfl (by kernel_rfl) (by kernel_rfl) (by kernel_rfl) (by kernel_rfl) (fun _ _ _ h => h) (Or.inl ⟨by rfl, ?_⟩) hH ?_
          rotate_left
          · intro w hSw
            try dsimp only at hSw
            go_simp
            try with_reducible rfl
          try simp only [Act.put, List.setIfInBounds_toArray, List.set_cons_zero, List.set_cons_succ]
          refine U_take (i := 7) (v := ?_) rfl (by kernel_rfl) (by kernel_rfl) (by kernel_rfl) (by kernel_rfl) (fun _ _ _ h => h) (Or.inl ⟨by rfl, ?_⟩) hH ?_
          rotate_left
          · intro w hSw
            try dsimp only at hSw
            go_simp
            try with_reducible rfl
          try simp only [Act.put, List.setIfInBounds_toArray, List.set_cons_zero, List.set_cons_succ]
          clear hH
          have cx_0 : w8.cell? ⟨w5.heap.size, 0, none⟩ = some (.bool false) := Blx.at 0 rfl
          have cx_1 : w8.cell? ⟨w5.heap.size, 1, none⟩ = some (.slice none 0 0) := Blx.at 1 rfl
          have cx_2 : w8.cell? ⟨w5.heap.size, 2, none⟩ = some (.slice none 0 0) := Blx.at 2 rfl
          have cx_3 : w8.cell? ⟨w5.heap.size, 3, none⟩ = some (.bool false) := Blx.at 3 rfl
          have cx_4 : w8.cell? ⟨w5.heap.size, 4, none⟩ = some (.slice none 0 0) := Blx.at 4 rfl
          have cx_5 : w8.cell? ⟨w5.heap.size, 5, none⟩ = some (.slice none 0 0) := Blx.at 5 rfl
          have fx := Blx.free
          have Lx : w5.heap.size < w8.heap.size := Blx.lt
          refine U_one (i := 9) (by kernel_rfl) rfl (fun K hK => ?_)
          go_simp
          generalize hW_ : ((((((w8.setCell ⟨w5.heap.size, 0, none⟩ (.bool sh5a)).setCell ⟨w5.heap.size, 1, none⟩ (.slice ah5a nh5a ch5a)).setCell ⟨w5.heap.size, 2, none⟩ (.slice Ah5a Nh5a Ch5a)).setCell ⟨w5.heap.size, 3, none⟩ (.bool sh5b)).setCell ⟨w5.heap.size, 4, none⟩ (.slice ah5b nh5b ch5b)).setCell ⟨w5.heap.size, 5, none⟩ (.slice Ah5b Nh5b Ch5b)) = w9
          have hW := hW_.symm
          clear hW_
          have hG : Gr [w5.heap.size] w8 w9 := by rw [hW]; exact (Gr.refl _ _).set.set.set.set.set.set
          have hsz := hs.size
          have lx := Blx.lt
          have hbw : Below w.heap.size w8 w9 := hG.below1 hs.size (by first | omega | assumption)
          have hk : KeepD w8 w9 := hG.keep ⟨⟨_, Blx.ty, by decide⟩, True.intro⟩
          have Bl1x : Bx w9 (w5.heap.size) 59 #[.bool sh5a, .slice ah5a nh5a ch5a, .slice Ah5a Nh5a Ch5a, .bool sh5b, .slice ah5b nh5b ch5b, .slice Ah5b Nh5b Ch5b] := by rw [hW]; exact Blx.set6
          replace hs := hs.trans hbw
          replace Blc := hG.bx Blc (notMem1 (by omega))
          replace Blconfidence := hG.bx Blconfidence (notMem1 (by omega))
          replace Blls := hG.bx Blls (notMem1 (by omega))
          replace Blx := Bl1x
          clear Bl1x
          replace h4 := h4.keep hk
          replace h5a := h5a.keep hk
          replace h5b := h5b.keep hk
          replace cc_0 := hG.cell cc_0 (notMem1 (by dsimp only; omega))
          replace cc_1 := hG.cell cc_1 (notMem1 (by dsimp only; omega))
          replace cconfidence_0 := hG.cell cconfidence_0 (notMem1 (by dsimp only; omega))
          replace cconfidence_1 := hG.cell cconfidence_1 (notMem1 (by dsimp only; omega))
          clear hW hG hk hbw hsz lx
          refine hK.out _ _ ⟨cc_0, cc_1, cconfidence_0, cconfidence_1⟩ (fun hH => ?_)
          clear hK K
          try simp only [Act.put, List.setIfInBounds_toArray, List.set_cons_zero, List.set_cons_succ]
          clear hH
          refine U_last (by kernel_rfl) rfl (by kernel_rfl) (fun K hK => ?_)
          go_simp
          refine hK.out _ _ ?_
          clear hK K
          intro wl hW
          rw [hW]
          clear hW wl
          try simp only [Act.put, List.setIfInBounds_toArray, List.set_cons_zero, List.set_cons_succ]
          clear cc_0 cc_1 cconfidence_0 cconfidence_1
          go_wp2_with fail
          go_meet
          exact ⟨w5.heap.size, _, _, _, _, _, _, _, _, _, _, _, _, _, _, rfl, rfl, (by first | exact sz_x | omega), (by omega), (by omega), (by omega), Blx, hs, Blc, Blconfidence, Blls, h5a, h5b⟩
      case rest =>
        clear hs Blc Blconfidence Blls
        obtain ⟨gx, sh5a, ah5a, nh5a, ch5a, Ah5a, Nh5a, Ch5a, sh5b, ah5b, nh5b, ch5b, Ah5b, Nh5b, Ch5b, rfl, rfl, hg_x, ng_x_c, ng_x_confidence, ng_x_ls, Blx, hs, Blc, Blconfidence, Blls, h5a, h5b⟩ := hcut
        go_upto_region 6 with fail
        go_cut [9, 10] (fun kv0 kx0 wz => ∃ gy sh7a ah7a nh7a ch7a Ah7a Nh7a Ch7a sh7b ah7b nh7b ch7b Ah7b Nh7b Ch7b, kv0 = .pointer (some ⟨gy, 0, none⟩) ∧ kx0 = .int .i64 e ∧ w.heap.size ≤ gy ∧ gy ≠ w.heap.size ∧ gy ≠ (w.heap.size + 1) ∧ gy ≠ w2.heap.size ∧ gy ≠ gx ∧ Bx wz gy 63 #[.bool sh7a, .slice ah7a nh7a ch7a, .slice Ah7a Nh7a Ch7a, .bool sh7b, .slice ah7b nh7b ch7b, .slice Ah7b Nh7b Ch7b] ∧ Below w.heap.size w wz ∧ Bx wz (w.heap.size) 57 #[.int .i64 n, .int .i64 f] ∧ Bx wz (w.heap.size + 1) 23 #[.int .i64 n1, .int .i64 d1] ∧ Bx wz (w2.heap.size) 23 #[.int .i64 n1, .int .i64 d1] ∧ Bx wz (gx) 59 #[.bool sh5a, .slice ah5a nh5a ch5a, .slice Ah5a Nh5a Ch5a, .bool sh5b, .slice ah5b nh5b ch5b, .slice Ah5b Nh5b Ch5b] ∧ PV wz (.agg #[.bool sh5a, .slice ah5a nh5a ch5a, .slice Ah5a Nh5a Ch5a]) (dtLo n f u kk) ∧ PV wz (.agg #[.bool sh5b, .slice ah5b nh5b ch5b, .slice Ah5b Nh5b Ch5b]) (dtHi n f u kk) ∧ RV wz (.agg #[.bool sh7a, .slice ah7a nh7a ch7a, .slice Ah7a Nh7a Ch7a]) (dtLo n f u kk) ∧ RV wz (.agg #[.bool sh7b, .slice ah7b nh7b ch7b, .slice Ah7b Nh7b Ch7b]) (dtHi n f u kk))
        case first => as_aux_lemma =>
          refine U_region (S := fun w' => w'.cell? ⟨w.heap.size, 0, none⟩ = some (.int .i64 n) ∧ w'.cell? ⟨w.heap.size, 1, none⟩ = some (.int .i64 f) ∧ w'.cell? ⟨w.heap.size + 1, 0, none⟩ = some (.int .i64 n1) ∧ w'.cell? ⟨w.heap.size + 1, 1, none⟩ = some (.int .i64 d1)) (by kernel_rfl) 10 ?_
          refine AnyU.abs ?_
          intro w5 hW
          have hb : Below wc.heap.size wc w5 := by rw [hW]; exact bDrew _
          replace hs := bStep hs hb
          replace Blc := Blc.mono hb
          replace Blconfidence := Blconfidence.mono hb
          replace Blls := Blls.mono hb
          replace Blx := Blx.mono hb
          replace h5a := h5a.mono hb
          replace h5b := h5b.mono hb
          clear hb hW
          have cc_0 : w5.cell? ⟨w.heap.size, 0, none⟩ = some (.int .i64 n) := Blc.at 0 rfl
          have cc_1 : w5.cell? ⟨w.heap.size, 1, none⟩ = some (.int .i64 f) := Blc.at 1 rfl
          have cconfidence_0 : w5.cell? ⟨w.heap.size + 1, 0, none⟩ = some (.int .i64 n1) := Blconfidence.at 0 rfl
          have cconfidence_1 : w5.cell? ⟨w.heap.size + 1, 1, none⟩ = some (.int .i64 d1) := Blconfidence.at 1 rfl
          have hH := (show w5.cell? ⟨w.heap.size, 0, none⟩ = some (.int .i64 n) ∧ w5.cell? ⟨w.heap.size, 1, none⟩ = some (.int .i64 f) ∧ w5.cell? ⟨w.heap.size + 1, 0, none⟩ = some (.int .i64 n1) ∧ w5.cell? ⟨w.heap.size + 1, 1, none⟩ = some (.int .i64 d1) from ⟨cc_0, cc_1, cconfidence_0, cconfidence_1⟩)
          refine U_take (i := 0) (v := ?_) rfl (by kernel_rfl) (by kernel_rfl) (by kernel_rfl) (by kernel_rfl) (fun _ _ _ h => h) (Or.inl ⟨by rfl, ?_⟩) hH ?_
          rotate_left
          · intro w hSw
            try dsimp only at hSw
            go_simp
            try with_reducible rfl
          try simp only [Act.put, List.setIfInBounds_toArray, List.set_cons_zero, List.set_cons_succ]
          refine U_take (i := 1) (v := ?_) rfl (by kernel_rfl) (by kernel_rfl) (by kernel_rfl) (by kernel_rfl) (fun _ _ _ h => h) (Or.inl ⟨by rfl, ?_⟩) hH ?_
          rotate_left
          · intro w hSw
            try dsimp only at hSw
            go_simp
            try with_reducible rfl
          try simp only [Act.put, List.setIfInBounds_toArray, List.set_cons_zero, List.set_cons_succ]
          refine U_take (i := 3) (v := ?_) rfl (by kernel_rfl) (by kernel_rfl) (by kernel_rfl) (by kernel_rfl) (fun _ _ _ h => h) (Or.inl ⟨by rfl, ?_⟩) hH ?_
          rotate_left
          · intro w hSw
            try dsimp only at hSw
            go_simp
            try with_reducible rfl
          try simp only [Act.put, List.setIfInBounds_toArray, List.set_cons_zero, List.set_cons_succ]
          refine U_two (i := 2) (j := 8) (by kernel_rfl) rfl rfl (fun K hK => ?_) (fun K hK => ?_)
          · clear hH
            go_simp
            (with_reducible refine (r1_OfD _ O1.out HU.out).mono ?_)
            rintro e w6 ⟨_, rfl, h6, hb⟩
            obtain ⟨sh6, ah6, nh6, ch6, Ah6, Nh6, Ch6, rfl⟩ := h6.shape
            replace hs := bStep hs hb
            replace Blc := Blc.mono hb
            replace Blconfidence := Blconfidence.mono hb
            replace Blls := Blls.mono hb
            replace Blx := Blx.mono hb
            replace h5a := h5a.mono hb
            replace h5b := h5b.mono hb
            replace cc_0 := cellK cc_0 hb
            replace cc_1 := cellK cc_1 hb
            replace cconfidence_0 := cellK cconfidence_0 hb
            replace cconfidence_1 := cellK cconfidence_1 hb
            clear hb
            try go_wp2_with fail
            refine hK.out _ _ ⟨cc_0, cc_1, cconfidence_0, cconfidence_1⟩ (fun hH => ?_)
            clear hK K
            try simp only [Act.put, List.setIfInBounds_toArray, List.set_cons_zero, List.set_cons_succ]
            refine U_two (i := 4) (j := 8) (by kernel_rfl) rfl rfl (fun K hK => ?_) (fun K hK => ?_)
            · clear hH
              go_simp
              (with_reducible refine (r8_Det_all (k := kk) _ h6 su (by omega) rfl rfl HE.out).mono ?_)
              rintro e w7 ⟨_, _, rfl, h7, rfl, hb⟩
              obtain ⟨sh7a, ah7a, nh7a, ch7a, Ah7a, Nh7a, Ch7a, sh7b, ah7b, nh7b, ch7b, Ah7b, Nh7b, Ch7b, rfl, h7a, h7b⟩ := h7.shape
              replace hs := bStep hs hb
              replace Blc := Blc.mono hb
              replace Blconfidence := Blconfidence.mono hb
              replace Blls := Blls.mono hb
              replace Blx := Blx.mono hb
              replace h5a := h5a.mono hb
              replace h5b := h5b.mono hb
              replace h6 := h6.mono hb
              replace cc_0 := cellK cc_0 hb
              replace cc_1 := cellK cc_1 hb
              replace cconfidence_0 := cellK cconfidence_0 hb
              replace cconfidence_1 := cellK cconfidence_1 hb
              clear hb
              try go_wp2_with fail
              refine hK.out _ _ ⟨cc_0, cc_1, cconfidence_0, cconfidence_1⟩ (fun hH => ?_)
              clear hK K
              try simp only [Act.put, List.setIfInBounds_toArray, List.set_cons_zero, List.set_cons_succ]
              refine U_take (i := 5) (v := ?_) rfl (by kernel_rfl) (by kernel_rfl) (by kernel_rfl) (by kernel_rfl) (fun _ _ _ h => h) (Or.inl ⟨by rfl, ?_⟩) hH ?_
              rotate_left
              · intro w hSw
                try dsimp only at hSw
                go_simp
                try with_reducible rfl
              try simp only [Act.put, List.setIfInBounds_toArray, List.set_cons_zero, List.set_cons_succ]
              refine U_take (i := 6) (v := ?_) rfl (by kernel_rfl) (by kernel_rfl) (by kernel_rfl) (by kernel_rfl) (fun _ _ _ h => h) (Or.inl ⟨by rfl, ?_⟩) hH ?_
              rotate_left
              · intro w hSw
                try dsimp only at hSw
                go_simp
                try with_reducible rfl
              try simp only [Act.put, List.setIfInBounds_toArray, List.set_cons_zero, List.set_cons_succ]
              refine U_take (i := 7) (v := ?_) rfl (by kernel_rfl) (by kernel_rfl) (by kernel_rfl) (by kernel_rfl) (fun _ _ _ h => h) (Or.inl ⟨by rfl, ?_⟩) hH ?_
              rotate_left
              · intro w hSw
                try dsimp only at hSw
                go_simp
                try with_reducible rfl
              try simp only [Act.put, List.setIfInBounds_toArray, List.set_cons_zero, List.set_cons_succ]
              clear hH
              refine U_one (i := 8) (by kernel_rfl) rfl (fun K hK => ?_)
              go_simp
              generalize hWn : (w7.alloc (.cells #[.bool false, .slice none 0 0, .slice none 0 0, .bool false, .slice none 0 0, .slice none 0 0] 63)) = w8
              have hb : Below w7.heap.size w7 w8 := by rw [← hWn]; exact (Below.refl _ _).alloc (Nat.le_refl _) _
              have Bly : Bx w8 (w7.heap.size) 63 #[.bool false, .slice none 0 0, .slice none 0 0, .bool false, .slice none 0 0, .slice none 0 0] := by rw [← hWn]; exact Bx.new _ _ _
              have nc_y : w.heap.size ≠ w7.heap.size := by have := Blc.lt; omega
              have nconfidence_y : w.heap.size + 1 ≠ w7.heap.size := by have := Blconfidence.lt; omega
              have nls_y : w2.heap.size ≠ w7.heap.size := by have := Blls.lt; omega
              have nx_y : gx ≠ w7.heap.size := by have := Blx.lt; omega
              have sz_y : w.heap.size ≤ w7.heap.size := hs.size
              replace hs := bStep hs hb
              replace Blc := Blc.mono hb
              replace Blconfidence := Blconfidence.mono hb
              replace Blls := Blls.mono hb
              replace Blx := Blx.mono hb
              replace h5a := h5a.mono hb
              replace h5b := h5b.mono hb
              replace h6 := h6.mono hb
              replace h7a := h7a.mono hb
              replace h7b := h7b.mono hb
              replace cc_0 := cellK cc_0 hb
              replace cc_1 := cellK cc_1 hb
              replace cconfidence_0 := cellK cconfidence_0 hb
              replace cconfidence_1 := cellK cconfidence_1 hb
              clear hb hWn
              refine hK.out _ _ ⟨cc_0, cc_1, cconfidence_0, cconfidence_1⟩ (fun hH => ?_)
              clear hK K
              try simp only [Act.put, List.setIfInBounds_toArray, List.set_cons_zero, List.set_cons_succ]
              clear hH
              have cy_0 : w8.cell? ⟨w7.heap.size, 0, none⟩ = some (.bool false) := Bly.at 0 rfl
              have cy_1 : w8.cell? ⟨w7.heap.size, 1, none⟩ = some (.slice none 0 0) := Bly.at 1 rfl
              have cy_2 : w8.cell? ⟨w7.heap.size, 2, none⟩ = some (.slice none 0 0) := Bly.at 2 rfl
              have cy_3 : w8.cell? ⟨w7.heap.size, 3, none⟩ = some (.bool false) := Bly.at 3 rfl
              have cy_4 : w8.cell? ⟨w7.heap.size, 4, none⟩ = some (.slice none 0 0) := Bly.at 4 rfl
              have cy_5 : w8.cell? ⟨w7.heap.size, 5, none⟩ = some (.slice none 0 0) := Bly.at 5 rfl
              have fy := Bly.free
              have Ly : w7.heap.size < w8.heap.size := Bly.lt
              refine U_one (i := 9) (by kernel_rfl) rfl (fun K hK => ?_)
              go_simp
              generalize hW_ : ((((((w8.setCell ⟨w7.heap.size, 0, none⟩ (.bool sh7a)).setCell ⟨w7.heap.size, 1, none⟩ (.slice ah7a nh7a ch7a)).setCell ⟨w7.heap.size, 2, none⟩ (.slice Ah7a Nh7a Ch7a)).setCell ⟨w7.heap.size, 3, none⟩ (.bool sh7b)).setCell ⟨w7.heap.size, 4, none⟩ (.slice ah7b nh7b ch7b)).setCell ⟨w7.heap.size, 5, none⟩ (.slice Ah7b Nh7b Ch7b)) = w9
              have hW := hW_.symm
              clear hW_
              have hG : Gr [w7.heap.size] w8 w9 := by rw [hW]; exact (Gr.refl _ _).set.set.set.set.set.set
              have hsz := hs.size
              have ly := Bly.lt
              have hbw : Below w.heap.size w8 w9 := hG.below1 hs.size (by first | omega | assumption)
              have hk : KeepD w8 w9 := hG.keep ⟨⟨_, Bly.ty, by decide⟩, True.intro⟩
              have Bl1y : Bx w9 (w7.heap.size) 63 #[.bool sh7a, .slice ah7a nh7a ch7a, .slice Ah7a Nh7a Ch7a, .bool sh7b, .slice ah7b nh7b ch7b, .slice Ah7b Nh7b Ch7b] := by rw [hW]; exact Bly.set6
              replace hs := hs.trans hbw
              replace Blc := hG.bx Blc (notMem1 (by omega))
              replace Blconfidence := hG.bx Blconfidence (notMem1 (by omega))
              replace Blls := hG.bx Blls (notMem1 (by omega))
              replace Blx := hG.bx Blx (notMem1 (by omega))
              replace Bly := Bl1y
              clear Bl1y
              replace h5a := h5a.keep hk
              replace h5b := h5b.keep hk
              replace h6 := h6.keep hk
              replace h7a := h7a.keep hk
              replace h7b := h7b.keep hk
              replace cc_0 := hG.cell cc_0 (notMem1 (by dsimp only; omega))
              replace cc_1 := hG.cell cc_1 (notMem1 (by dsimp only; omega))
              replace cconfidence_0 := hG.cell cconfidence_0 (notMem1 (by dsimp only; omega))
              replace cconfidence_1 := hG.cell cconfidence_1 (notMem1 (by dsimp only; omega))
              clear hW hG hk hbw hsz ly
              refine hK.out _ _ ⟨cc_0, cc_1, cconfidence_0, cconfidence_1⟩ (fun hH => ?_)
              clear hK K
              try simp only [Act.put, List.setIfInBounds_toArray, List.set_cons_zero, List.set_cons_succ]
              clear hH
              refine U_last (by kernel_rfl) rfl (by kernel_rfl) (fun K hK => ?_)
              go_simp
              refine hK.out _ _ ?_
              clear hK K
              intro wl hW
              rw [hW]
              clear hW wl
              try simp only [Act.put, List.setIfInBounds_toArray, List.set_cons_zero, List.set_cons_succ]
              clear cc_0 cc_1 cconfidence_0 cconfidence_1
              go_wp2_with fail
              go_meet
              exact ⟨w7.heap.size, _, _, _, _, _, _, _, _, _, _, _, _, _, _, rfl, rfl, (by first | exact sz_y | omega), (by omega), (by omega), (by omega), (by omega), Bly, hs, Blc, Blconfidence, Blls, Blx, h5a, h5b, h7a, h7b⟩
            · clear hH
              go_simp
              generalize hWn : (w6.alloc (.cells #[.bool false, .slice none 0 0, .slice none 0 0, .bool false, .slice none 0 0, .slice none 0 0] 63)) = w7
              have hb : Below w6.heap.size w6 w7 := by rw [← hWn]; exact (Below.refl _ _).alloc (Nat.le_refl _) _
              have Bly : Bx w7 (w6.heap.size) 63 #[.bool false, .slice none 0 0, .slice none 0 0, .bool false, .slice none 0 0, .slice none 0 0] := by rw [← hWn]; exact Bx.new _ _ _
              have nc_y : w.heap.size ≠ w6.heap.size := by have := Blc.lt; omega
              have nconfidence_y : w.heap.size + 1 ≠ w6.heap.size := by have := Blconfidence.lt; omega
              have nls_y : w2.heap.size ≠ w6.heap.size := by have := Blls.lt; omega
              have nx_y : gx ≠ w6.heap.size := by have := Blx.lt; omega
              have sz_y : w.heap.size ≤ w6.heap.size := hs.size
              replace hs := bStep hs hb
              replace Blc := Blc.mono hb
              replace Blconfidence := Blconfidence.mono hb
              replace Blls := Blls.mono hb
              replace Blx := Blx.mono hb
              replace h5a := h5a.mono hb
              replace h5b := h5b.mono hb
              replace h6 := h6.mono hb
              replace cc_0 := cellK cc_0 hb
              replace cc_1 := cellK cc_1 hb
              replace cconfidence_0 := cellK cconfidence_0 hb
              replace cconfidence_1 := cellK cconfidence_1 hb
              clear hb hWn
              refine hK.out _ _ ⟨cc_0, cc_1, cconfidence_0, cconfidence_1⟩ (fun hH => ?_)
              clear hK K
              try simp only [Act.put, List.setIfInBounds_toArray, List.set_cons_zero, List.set_cons_succ]
              clear hH
              refine U_one (i := 4) (by kernel_rfl) rfl (fun K hK => ?_)
              go_simp
              (with_reducible refine (r8_Det_all (k := kk) _ h6 su (by omega) rfl rfl HE.out).mono ?_)
              rintro e w8 ⟨_, _, rfl, h7, rfl, hb⟩
              obtain ⟨sh7a, ah7a, nh7a, ch7a, Ah7a, Nh7a, Ch7a, sh7b, ah7b, nh7b, ch7b, Ah7b, Nh7b, Ch7b, rfl, h7a, h7b⟩ := h7.shape
              replace hs := bStep hs hb
              replace Blc := Blc.mono hb
              replace Blconfidence := Blconfidence.mono hb
              replace Blls := Blls.mono hb
              replace Blx := Blx.mono hb
              replace Bly := Bly.mono hb
              replace h5a := h5a.mono hb
              replace h5b := h5b.mono hb
              replace h6 := h6.mono hb
              replace cc_0 := cellK cc_0 hb
              replace cc_1 := cellK cc_1 hb
              replace cconfidence_0 := cellK cconfidence_0 hb
              replace cconfidence_1 := cellK cconfidence_1 hb
              clear hb
              try go_wp2_with fail
              refine hK.out _ _ ⟨cc_0, cc_1, cconfidence_0, cconfidence_1⟩ (fun hH => ?_)
              clear hK K
              try simp only [Act.put, List.setIfInBounds_toArray, List.set_cons_zero, List.set_cons_succ]
              refine U_take (i := 5) (v := ?_) rfl (by kernel_rfl) (by kernel_rfl) (by kernel_rfl) (by kernel_rfl) (fun _ _ _ h => h) (Or.inl ⟨by rfl, ?_⟩) hH ?_
              rotate_left
              · intro w hSw
                try dsimp only at hSw
                go_simp
                try with_reducible rfl
              try simp only [Act.put, List.setIfInBounds_toArray, List.set_cons_zero, List.set_cons_succ]
              refine U_take (i := 6) (v := ?_) rfl (by kernel_rfl) (by kernel_rfl) (by kernel_rfl) (by kernel_rfl) (fun _ _ _ h => h) (Or.inl ⟨by rfl, ?_⟩) hH ?_
              rotate_left
              · intro w hSw
                try dsimp only at hSw
                go_simp
                try with_reducible rfl
              try simp only [Act.put, List.setIfInBounds_toArray, List.set_cons_zero, List.set_cons_succ]
              refine U_take (i := 7) (v := ?_) rfl (by kernel_rfl) (by kernel_rfl) (by kernel_rfl) (by kernel_rfl) (fun _ _ _ h => h) (Or.inl ⟨by rfl, ?_⟩) hH ?_
              rotate_left
              · intro w hSw
                try dsimp only at hSw
                go_simp
                try with_reducible rfl
              try simp only [Act.put, List.setIfInBounds_toArray, List.set_cons_zero, List.set_cons_succ]
              clear hH
              have cy_0 : w8.cell? ⟨w6.heap.size, 0, none⟩ = some (.bool false) := Bly.at 0 rfl
              have cy_1 : w8.cell? ⟨w6.heap.size, 1, none⟩ = some (.slice none 0 0) := Bly.at 1 rfl
              have cy_2 : w8.cell? ⟨w6.heap.size, 2, none⟩ = some (.slice none 0 0) := Bly.at 2 rfl
              have cy_3 : w8.cell? ⟨w6.heap.size, 3, none⟩ = some (.bool false) := Bly.at 3 rfl
              have cy_4 : w8.cell? ⟨w6.heap.size, 4, none⟩ = some (.slice none 0 0) := Bly.at 4 rfl
              have cy_5 : w8.cell? ⟨w6.heap.size, 5, none⟩ = some (.slice none 0 0) := Bly.at 5 rfl
              have fy := Bly.free
              have Ly : w6.heap.size < w8.heap.size := Bly.lt
              refine U_one (i := 9) (by kernel_rfl) rfl (fun K hK => ?_)
              go_simp
              generalize hW_ : ((((((w8.setCell ⟨w6.heap.size, 0, none⟩ (.bool sh7a)).setCell ⟨w6.heap.size, 1, none⟩ (.slice ah7a nh7a ch7a)).setCell ⟨w6.heap.size, 2, none⟩ (.slice Ah7a Nh7a Ch7a)).setCell ⟨w6.heap.size, 3, none⟩ (.bool sh7b)).setCell ⟨w6.heap.size, 4, none⟩ (.slice ah7b nh7b ch7b)).setCell ⟨w6.heap.size, 5, none⟩ (.slice Ah7b Nh7b Ch7b)) = w9
              have hW := hW_.symm
              clear hW_
              have hG : Gr [w6.heap.size] w8 w9 := by rw [hW]; exact (Gr.refl _ _).set.set.set.set.set.set
              have hsz := hs.size
              have ly := Bly.lt
              have hbw : Below w.heap.size w8 w9 := hG.below1 hs.size (by first | omega | assumption)
              have hk : KeepD w8 w9 := hG.keep ⟨⟨_, Bly.ty, by decide⟩, True.intro⟩
              have Bl1y : Bx w9 (w6.heap.size) 63 #[.bool sh7a, .slice ah7a nh7a ch7a, .slice Ah7a Nh7a Ch7a, .bool sh7b, .slice ah7b nh7b ch7b, .slice Ah7b Nh7b Ch7b] := by rw [hW]; exact Bly.set6
              replace hs := hs.trans hbw
              replace Blc := hG.bx Blc (notMem1 (by omega))
              replace Blconfidence := hG.bx Blconfidence (notMem1 (by omega))
              replace Blls := hG.bx Blls (notMem1 (by omega))
              replace Blx := hG.bx Blx (notMem1 (by omega))
              replace Bly := Bl1y
              clear Bl1y
              replace h5a := h5a.keep hk
              replace h5b := h5b.keep hk
              replace h6 := h6.keep hk
              replace h7a := h7a.keep hk
              replace h7b := h7b.keep hk
              replace cc_0 := hG.cell cc_0 (notMem1 (by dsimp only; omega))
              replace cc_1 := hG.cell cc_1 (notMem1 (by dsimp only; omega))
              replace cconfidence_0 := hG.cell cconfidence_0 (notMem1 (by dsimp only; omega))
              replace cconfidence_1 := hG.cell cconfidence_1 (notMem1 (by dsimp only; omega))
              clear hW hG hk hbw hsz ly
              refine hK.out _ _ ⟨cc_0, cc_1, cconfidence_0, cconfidence_1⟩ (fun hH => ?_)
              clear hK K
              try simp only [Act.put, List.setIfInBounds_toArray, List.set_cons_zero, List.set_cons_succ]
              clear hH
              refine U_last (by kernel_rfl) rfl (by kernel_rfl) (fun K hK => ?_)
              go_simp
              refine hK.out _ _ ?_
              clear hK K
              intro wl hW
              rw [hW]
              clear hW wl
              try simp only [Act.put, List.setIfInBounds_toArray, List.set_cons_zero, List.set_cons_succ]
              clear cc_0 cc_1 cconfidence_0 cconfidence_1
              go_wp2_with fail
              go_meet
              exact ⟨w6.heap.size, _, _, _, _, _, _, _, _, _, _, _, _, _, _, rfl, rfl, (by first | exact sz_y | omega), (by omega), (by omega), (by omega), (by omega), Bly, hs, Blc, Blconfidence, Blls, Blx, h5a, h5b, h7a, h7b⟩
          · clear hH
            go_simp
            generalize hWn : (w5.alloc (.cells #[.bool false, .slice none 0 0, .slice none 0 0, .bool false, .slice none 0 0, .slice none 0 0] 63)) = w6
            have hb : Below w5.heap.size w5 w6 := by rw [← hWn]; exact (Below.refl _ _).alloc (Nat.le_refl _) _
            have Bly : Bx w6 (w5.heap.size) 63 #[.bool false, .slice none 0 0, .slice none 0 0, .bool false, .slice none 0 0, .slice none 0 0] := by rw [← hWn]; exact Bx.new _ _ _
            have nc_y : w.heap.size ≠ w5.heap.size := by have := Blc.lt; omega
            have nconfidence_y : w.heap.size + 1 ≠ w5.heap.size := by have := Blconfidence.lt; omega
            have nls_y : w2.heap.size ≠ w5.heap.size := by have := Blls.lt; omega
            have nx_y : gx ≠ w5.heap.size := by have := Blx.lt; omega
            have sz_y : w.heap.size ≤ w5.heap.size := hs.size
            replace hs := bStep hs hb
            replace Blc := Blc.mono hb
            replace Blconfidence := Blconfidence.mono hb
            replace Blls := Blls.mono hb
            replace Blx := Blx.mono hb
            replace h5a := h5a.mono hb
            replace h5b := h5b.mono hb
            replace cc_0 := cellK cc_0 hb
            replace cc_1 := cellK cc_1 hb
            replace cconfidence_0 := cellK cconfidence_0 hb
            replace cconfidence_1 := cellK cconfidence_1 hb
            clear hb hWn
            refine hK.out _ _ ⟨cc_0, cc_1, cconfidence_0, cconfidence_1⟩ (fun hH => ?_)
            clear hK K
            try simp only [Act.put, List.setIfInBounds_toArray, List.set_cons_zero, List.set_cons_succ]
            clear hH
            refine U_one (i := 2) (by kernel_rfl) rfl (fun K hK => ?_)
            go_simp
            (with_reducible refine (r1_OfD _ O1.out HU.out).mono ?_)
            rintro e w7 ⟨_, rfl, h6, hb⟩
            obtain ⟨sh6, ah6, nh6, ch6, Ah6, Nh6, Ch6, rfl⟩ := h6.shape
            replace hs := bStep hs hb
            replace Blc := Blc.mono hb
            replace Blconfidence := Blconfidence.mono hb
            replace Blls := Blls.mono hb
            replace Blx := Blx.mono hb
            replace Bly := Bly.mono hb
            replace h5a := h5a.mono hb
            replace h5b := h5b.mono hb
            replace cc_0 := cellK cc_0 hb
            replace cc_1 := cellK cc_1 hb
            replace cconfidence_0 := cellK cconfidence_0 hb
            replace cconfidence_1 := cellK cconfidence_1 hb
            clear hb
            try go_wp2_with fail
            refine hK.out _ _ ⟨cc_0, cc_1, cconfidence_0, cconfidence_1⟩ (fun hH => ?_)
            clear hK K
            try simp only [Act.put, List.setIfInBounds_toArray, List.set_cons_zero, List.set_cons_succ]
            clear hH
            refine U_one (i := 4) (by kernel_rfl) rfl (fun K hK => ?_)
            go_simp
            (with_reducible refine (r8_Det_all (k := kk) _ h6 su (by omega) rfl rfl HE.out).mono ?_)
            rintro e w8 ⟨_, _, rfl, h7, rfl, hb⟩
            obtain ⟨sh7a, ah7a, nh7a, ch7a, Ah7a, Nh7a, Ch7a, sh7b, ah7b, nh7b, ch7b, Ah7b, Nh7b, Ch7b, rfl, h7a, h7b⟩ := h7.shape
            replace hs := bStep hs hb
            replace Blc := Blc.mono hb
            replace Blconfidence := Blconfidence.mono hb
            replace Blls := Blls.mono hb
            replace Blx := Blx.mono hb
            replace Bly := Bly.mono hb
            replace h5a := h5a.mono hb
            replace h5b := h5b.mono hb
            replace h6 := h6.mono hb
            replace cc_0 := cellK cc_0 hb
            replace cc_1 := cellK cc_1 hb
            replace cconfidence_0 := cellK cconfidence_0 hb
            replace cconfidence_1 := cellK cconfidence_1 hb
            clear hb
            try go_wp2_with fail
            refine hK.out _ _ ⟨cc_0, cc_1, cconfidence_0, cconfidence_1⟩ (fun hH => ?_)
            clear hK K
            try simp only [Act.put, List.setIfInBounds_toArray, List.set_cons_zero, List.set_cons_succ]
            refine U_take (i := 5) (v := ?_) rfl (by kernel_rfl) (by kernel_rfl) (by kernel_rfl) (by kernel_rfl) (fun _ _ _ h => h) (Or.inl ⟨by rfl, ?_⟩) hH ?_
            rotate_left
            · intro w hSw
              try dsimp only at hSw
              go_simp
              try with_reducible rfl
            try simp only [Act.put, List.setIfInBounds_toArray, List.set_cons_zero, List.set_cons_succ]
            refine U_take (i := 6) (v := ?_) rfl (by kernel_rfl) (by kernel_rfl) (by kernel_rfl) (by kernel_rfl) (fun _ _ _ h => h) (Or.inl ⟨by rfl, ?_⟩) hH ?_
            rotate_left
            · intro w hSw
              try dsimp only at hSw
              go_simp
              try with_reducible rfl
            try simp only [Act.put, List.setIfInBounds_toArray, List.set_cons_zero, List.set_cons_succ]
            refine U_take (i := 7) (v := ?_) rfl (by kernel_rfl) (by kernel_rfl) (by kernel_rfl) (by kernel_rfl) (fun _ _ _ h => h) (Or.inl ⟨by rfl, ?_⟩) hH ?_
            rotate_left
            · intro w hSw
              try dsimp only at hSw
              go_simp
              try with_reducible rfl
            try simp only [Act.put, List.setIfInBounds_toArray, List.set_cons_zero, List.set_cons_succ]
            clear hH
            have cy_0 : w8.cell? ⟨w5.heap.size, 0, none⟩ = some (.bool false) := Bly.at 0 rfl
            have cy_1 : w8.cell? ⟨w5.heap.size, 1, none⟩ = some (.slice none 0 0) := Bly.at 1 rfl
            have cy_2 : w8.cell? ⟨w5.heap.size, 2, none⟩ = some (.slice none 0 0) := Bly.at 2 rfl
            have cy_3 : w8.cell? ⟨w5.heap.size, 3, none⟩ = some (.bool false) := Bly.at 3 rfl
            have cy_4 : w8.cell? ⟨w5.heap.size, 4, none⟩ = some (.slice none 0 0) := Bly.at 4 rfl
            have cy_5 : w8.cell? ⟨w5.heap.size, 5, none⟩ = some (.slice none 0 0) := Bly.at 5 rfl
            have fy := Bly.free
            have Ly : w5.heap.size < w8.heap.size := Bly.lt
            refine U_one (i := 9) (by kernel_rfl) rfl (fun K hK => ?_)
            go_simp
            generalize hW_ : ((((((w8.setCell ⟨w5.heap.size, 0, none⟩ (.bool sh7a)).setCell ⟨w5.heap.size, 1, none⟩ (.slice ah7a nh7a ch7a)).setCell ⟨w5.heap.size, 2, none⟩ (.slice Ah7a Nh7a Ch7a)).setCell ⟨w5.heap.size, 3, none⟩ (.bool sh7b)).setCell ⟨w5.heap.size, 4, none⟩ (.slice ah7b nh7b ch7b)).setCell ⟨w5.heap.size, 5, none⟩ (.slice Ah7b Nh7b Ch7b)) = w9
            have hW := hW_.symm
            clear hW_
            have hG : Gr [w5.heap.size] w8 w9 := by rw [hW]; exact (Gr.refl _ _).set.set.set.set.set.set
            have hsz := hs.size
            have ly := Bly.lt
            have hbw : Below w.heap.size w8 w9 := hG.below1 hs.size (by first | omega | assumption)
            have hk : KeepD w8 w9 := hG.keep ⟨⟨_, Bly.ty, by decide⟩, True.intro⟩
            have Bl1y : Bx w9 (w5.heap.size) 63 #[.bool sh7a, .slice ah7a nh7a ch7a, .slice Ah7a Nh7a Ch7a, .bool sh7b, .slice ah7b nh7b ch7b, .slice Ah7b Nh7b Ch7b] := by rw [hW]; exact Bly.set6
            replace hs := hs.trans hbw
            replace Blc := hG.bx Blc (notMem1 (by omega))
            replace Blconfidence := hG.bx Blconfidence (notMem1 (by omega))
            replace Blls := hG.bx Blls (notMem1 (by omega))
            replace Blx := hG.bx Blx (notMem1 (by omega))
            replace Bly := Bl1y
            clear Bl1y
            replace h5a := h5a.keep hk
            replace h5b := h5b.keep hk
            replace h6 := h6.keep hk
            replace h7a := h7a.keep hk
            replace h7b := h7b.keep hk
            replace cc_0 := hG.cell cc_0 (notMem1 (by dsimp only; omega))
            replace cc_1 := hG.cell cc_1 (notMem1 (by dsimp only; omega))
            replace cconfidence_0 := hG.cell cconfidence_0 (notMem1 (by dsimp only; omega))
            replace cconfidence_1 := hG.cell cconfidence_1 (notMem1 (by dsimp only; omega))
            clear hW hG hk hbw hsz ly
            refine hK.out _ _ ⟨cc_0, cc_1, cconfidence_0, cconfidence_1⟩ (fun hH => ?_)
            clear hK K
            try simp only [Act.put, List.setIfInBounds_toArray, List.set_cons_zero, List.set_cons_succ]
            clear hH
            refine U_last (by kernel_rfl) rfl (by kernel_rfl) (fun K hK => ?_)
            go_simp
            refine hK.out _ _ ?_
            clear hK K
            intro wl hW
            rw [hW]
            clear hW wl
            try simp only [Act.put, List.setIfInBounds_toArray, List.set_cons_zero, List.set_cons_succ]
            clear cc_0 cc_1 cconfidence_0 cconfidence_1
            go_wp2_with fail
            go_meet
            exact ⟨w5.heap.size, _, _, _, _, _, _, _, _, _, _, _, _, _, _, rfl, rfl, (by first | exact sz_y | omega), (by omega), (by omega), (by omega), (by omega), Bly, hs, Blc, Blconfidence, Blls, Blx, h5a, h5b, h7a, h7b⟩
        case rest =>
          clear hs Blc Blconfidence Blls Blx h5a h5b
          obtain ⟨gy, sh7a, ah7a, nh7a, ch7a, Ah7a, Nh7a, Ch7a, sh7b, ah7b, nh7b, ch7b, Ah7b, Nh7b, Ch7b, rfl, rfl, hg_y, ng_y_c, ng_y_confidence, ng_y_ls, ng_y_x, Bly, hs, Blc, Blconfidence, Blls, Blx, h5a, h5b, h7a, h7b⟩ := hcut
          have q8b : (e == e) = true := beq_self_eq_true _
          have q8n : (e != e) = false := bne_self_eq_false _
          have cx_0 : wc.cell? ⟨gx, 0, none⟩ = some (.bool sh5a) := Blx.at 0 rfl
          have cx_1 : wc.cell? ⟨gx, 1, none⟩ = some (.slice ah5a nh5a ch5a) := Blx.at 1 rfl
          have cx_2 : wc.cell? ⟨gx, 2, none⟩ = some (.slice Ah5a Nh5a Ch5a) := Blx.at 2 rfl
          have cx_3 : wc.cell? ⟨gx, 3, none⟩ = some (.bool sh5b) := Blx.at 3 rfl
          have cx_4 : wc.cell? ⟨gx, 4, none⟩ = some (.slice ah5b nh5b ch5b) := Blx.at 4 rfl
          have cx_5 : wc.cell? ⟨gx, 5, none⟩ = some (.slice Ah5b Nh5b Ch5b) := Blx.at 5 rfl
          have Lx : gx < wc.heap.size := Blx.lt
          have cy_0 : wc.cell? ⟨gy, 0, none⟩ = some (.bool sh7a) := Bly.at 0 rfl
          have cy_1 : wc.cell? ⟨gy, 1, none⟩ = some (.slice ah7a nh7a ch7a) := Bly.at 1 rfl
          have cy_2 : wc.cell? ⟨gy, 2, none⟩ = some (.slice Ah7a Nh7a Ch7a) := Bly.at 2 rfl
          have cy_3 : wc.cell? ⟨gy, 3, none⟩ = some (.bool sh7b) := Bly.at 3 rfl
          have cy_4 : wc.cell? ⟨gy, 4, none⟩ = some (.slice ah7b nh7b ch7b) := Bly.at 4 rfl
          have cy_5 : wc.cell? ⟨gy, 5, none⟩ = some (.slice Ah7b Nh7b Ch7b) := Bly.at 5 rfl
          have Ly : gy < wc.heap.size := Bly.lt
          go_wp2_with fail
          clear cx_0 cx_1 cx_2 cx_3 cx_4 cx_5 cy_0 cy_1 cy_2 cy_3 cy_4 cy_5 Lx Ly
          with_reducible refine (l1_IsRange _ (PV2.mk h5a h5b) (RV2.mk h7a h7b) ((dt_sz kk).1.mono (show 1 ≤ 100 by omega)) ((dt_sz kk).2.mono (show 1 ≤ 100 by omega))).mono ?_
          rintro e w5 ⟨rfl, hb⟩
          replace hs := bStep hs hb
          replace Blc := Blc.mono hb
          replace Blconfidence := Blconfidence.mono hb
          replace Blls := Blls.mono hb
          replace Blx := Blx.mono hb
          replace Bly := Bly.mono hb
          replace h5a := h5a.mono hb
          replace h5b := h5b.mono hb
          replace h7a := h7a.mono hb
          replace h7b := h7b.mono hb
          clear hb
          go_wp2
          go_ret
          exact ⟨rfl, hs⟩

theorem l8_AllowDetects (n f n1 d1 k : Int) (w : World) (o1 : DOk (n1, d1)) :
    Calls Tryz.prog 5 #[.agg #[.int .i64 n, .int .i64 f], .agg #[.int .i64 n1, .int .i64 d1], .int .i64 k] w (RetV w (.bool true)) := by
  by_cases hS : [(n1, d1)].all smF8 = true
  · by_cases hn : 12 < n ∧ n ≤ 64
    · exact l8_Detects_bad2 n f n1 d1 k w hS hn.1 hn.2
    · have hh : smF8 (n1, d1) = true := by simpa [List.all_cons] using hS
      exact l8_Detects_ok n f n1 d1 k w (min k 6) (by omega) (by omega) (by omega) hS (by omega) o1 _ rfl (smF8_sz hh) _ rfl
  · exact l8_Detects_bad1 n f n1 d1 k w hS
end Go.Proofs.YtmnipggjjcmjkaaGreat
