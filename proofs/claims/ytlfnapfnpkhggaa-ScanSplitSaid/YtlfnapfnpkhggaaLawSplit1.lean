/-
  Law 07: ScanSplit, all ways, over awake.
-/
import Derived.Test.YtlfnapfnpkhggaaLawSplit
set_option linter.unusedSimpArgs false
set_option linter.unusedVariables false
namespace Go.Proofs.Ytlfnapfnpkhggaa
open Go.RowKit Dg
attribute [local go_sem ↓] Go.wp_at_zero Go.wp_at_succ

set_option maxRecDepth 100000 in
set_option maxHeartbeats 4000000 in
theorem l7_ScanSplit_dim (hAw : ∀ w : World, Calls Try.prog 7 #[] w (RetV w (.bool true))) (v : Value) (l : List DL) (b0 b1 b2 : Int) (w : World) (hl : RowsI 6 DC w v l) (a0 : ¬ lightQ l = true) :
    Calls Try.prog 3 #[v, .int .u8 b0, .int .u8 b1, .int .u8 b2] w (RetV w (.bool true)) := by
  obtain ⟨ao, cap, rfl, hc1, hc2, hc3⟩ := hl.slice
  have hs := Below.refl w.heap.size w
  have HAW := Lib.hid hAw
  have HL := Lib.hid hl
  have HLT := Lib.hid a0
  clear a0
  clear hAw hl
  go_enter Try.func3, Try.ntmps3
  go_wp2_with fail
  with_reducible refine (l7_light _ l _ (HL.out.mono DC.kept hs)).mono ?_
  rintro e w1 ⟨rfl, hb⟩
  replace hs := bStep hs hb
  clear hb
  obtain ⟨b1, Hb1⟩ : ∃ b : Bool, b = lightQ l := ⟨_, rfl⟩
  rw [← Hb1]
  replace Hb1 := Lib.hid Hb1
  have q2 : ¬ (lightQ l = true) := HLT.out
  obtain rfl : b1 = false := by rw [Hb1.out]; simpa using q2
  have q2H := Lib.hid q2
  clear q2
  go_wp2_with fail
  with_reducible refine (HAW.out _).mono ?_
  rintro e w2 ⟨rfl, hb⟩
  replace hs := bStep hs hb
  clear hb
  go_wp2
  go_ret
  exact ⟨rfl, hs⟩

set_option maxRecDepth 100000 in
set_option maxHeartbeats 4000000 in
theorem l7_ScanSplit_long (hAw : ∀ w : World, Calls Try.prog 7 #[] w (RetV w (.bool true))) (v : Value) (l : List DL) (b0 b1 b2 : Int) (w : World) (hl : RowsI 6 DC w v l) (a0 : lightQ l = true) (h6 : 6 < l.length) :
    Calls Try.prog 3 #[v, .int .u8 b0, .int .u8 b1, .int .u8 b2] w (RetV w (.bool true)) := by
  obtain ⟨ao, cap, rfl, hc1, hc2, hc3⟩ := hl.slice
  have hs := Below.refl w.heap.size w
  have HAW := Lib.hid hAw
  have HL := Lib.hid hl
  have HLT := Lib.hid a0
  clear a0
  clear hAw hl
  go_enter Try.func3, Try.ntmps3
  go_wp2_with fail
  with_reducible refine (l7_light _ l _ (HL.out.mono DC.kept hs)).mono ?_
  rintro e w1 ⟨rfl, hb⟩
  replace hs := bStep hs hb
  clear hb
  obtain ⟨b1, Hb1⟩ : ∃ b : Bool, b = lightQ l := ⟨_, rfl⟩
  rw [← Hb1]
  replace Hb1 := Lib.hid Hb1
  have q2 : lightQ l = true := HLT.out
  obtain rfl : b1 = true := by rw [Hb1.out]; exact q2
  have q2H := Lib.hid q2
  clear q2
  have q3 : 6 < l.length := (by omega)
  have q3d : ((6 : Int) < (l.length : Int)) = True := eq_true (by omega)
  go_wp2_with fail
  with_reducible refine (HAW.out _).mono ?_
  rintro e w2 ⟨rfl, hb⟩
  replace hs := bStep hs hb
  clear hb
  go_wp2
  go_ret
  exact ⟨rfl, hs⟩

theorem split_err (v : Value) (L : List Lay) (w : World) (hl : Rows 9 41 (C3 PC) w v L) (h : 1 ≤ 1000) (hz : ∀ x ∈ L, LaySz 1 x) {rc : Int} (hrc : resC L = rc) :
    Calls Try.prog 9 #[v] w (Ret2 (fun w v => Rows 6 44 (C2 PC) w v (resE L)) (fun _ v => v = .int .i64 rc) w) := by
  subst hrc
  exact sc_Echoes_all v L 1 w hl h hz
set_option maxRecDepth 100000 in
set_option maxHeartbeats 4000000 in
theorem l7_ScanSplit_err (hAw : ∀ w : World, Calls Try.prog 7 #[] w (RetV w (.bool true))) (v : Value) (l : List DL) (b0 b1 b2 : Int) (w : World) (hl : RowsI 6 DC w v l) (hok : ∀ x ∈ l, DOk x.1 ∧ DOk x.2.1 ∧ DOk x.2.2) (a0 : lightQ l = true) (h6 : l.length ≤ 6) (L : List Lay) (hLL : L = l.map layF) (hz : ∀ x ∈ L, LaySz 1 x) (rc : Int) (hrc : resC L = rc) (hne : rc ≠ 0) :
    Calls Try.prog 3 #[v, .int .u8 b0, .int .u8 b1, .int .u8 b2] w (RetV w (.bool true)) := by
  obtain ⟨ao, cap, rfl, hc1, hc2, hc3⟩ := hl.slice
  have hs := Below.refl w.heap.size w
  have HAW := Lib.hid hAw
  have HL := Lib.hid hl
  have HLT := Lib.hid a0
  have HOK := Lib.hid hok
  have HLL := Lib.hid hLL
  have HZ := Lib.hid hz
  have HRC := Lib.hid hrc
  have HNE := Lib.hid hne
  clear a0 hok hLL hz hrc hne
  clear hAw hl
  go_enter Try.func3, Try.ntmps3
  go_wp2_with fail
  with_reducible refine (l7_light _ l _ (HL.out.mono DC.kept hs)).mono ?_
  rintro e w1 ⟨rfl, hb⟩
  replace hs := bStep hs hb
  clear hb
  obtain ⟨b1, Hb1⟩ : ∃ b : Bool, b = lightQ l := ⟨_, rfl⟩
  rw [← Hb1]
  replace Hb1 := Lib.hid Hb1
  have q2 : lightQ l = true := HLT.out
  obtain rfl : b1 = true := by rw [Hb1.out]; exact q2
  have q2H := Lib.hid q2
  clear q2
  have q3 : ¬ (6 < l.length) := (by omega)
  have q3d : ((6 : Int) < (l.length : Int)) = False := eq_false (by omega)
  go_wp2_with fail
  with_reducible refine (l7_layers _ l _ (HL.out.mono DC.kept hs) (by omega) HOK.out).mono ?_
  rintro e w2 ⟨_, _, rfl, h4, _, hb⟩
  rw [← HLL.out] at h4
  obtain ⟨ah4, kh4, rfl, h41, h42, h43⟩ := h4.slice
  replace hs := bStep hs hb
  clear hb
  go_wp2_with fail
  with_reducible refine (split_err _ _ _ h4 (by omega) HZ.out HRC.out).mono ?_
  rintro e w3 ⟨_, _, rfl, _, rfl, hb⟩
  replace hs := bStep hs hb
  replace h4 := rowsJ (C3.kept PC.kept) _ _ _ h4 hb
  clear hb
  have q5 : ¬ (rc = 0) := HNE.out
  have q5b : (rc == 0) = false := by simp; omega
  have q5n : (rc != 0) = true := by simp; omega
  have q5H := Lib.hid q5
  clear q5
  go_wp2_with fail
  with_reducible refine (HAW.out _).mono ?_
  rintro e w4 ⟨rfl, hb⟩
  replace hs := bStep hs hb
  replace h4 := rowsJ (C3.kept PC.kept) _ _ _ h4 hb
  clear hb
  go_wp2
  go_ret
  exact ⟨rfl, hs⟩

theorem l7_ScanSplit_all (hAw : ∀ w : World, Calls Try.prog 7 #[] w (RetV w (.bool true))) (v : Value) (l : List DL) (b0 b1 b2 : Int) (w : World) (hl : RowsI 6 DC w v l) (hok : ∀ x ∈ l, DOk x.1 ∧ DOk x.2.1 ∧ DOk x.2.2) (p0 : 0 ≤ b0 ∧ b0 ≤ 255) (p1 : 0 ≤ b1 ∧ b1 ≤ 255) (p2 : 0 ≤ b2 ∧ b2 ≤ 255) :
    Calls Try.prog 3 #[v, .int .u8 b0, .int .u8 b1, .int .u8 b2] w (RetV w (.bool true)) := by
  by_cases a0 : lightQ l = true
  · by_cases h6 : l.length ≤ 6
    · have hz : ∀ x ∈ l.map layF, LaySz 1 x := by
        have hg := a0
        unfold lightQ at hg
        simp only [Bool.and_eq_true] at hg
        intro x hx
        obtain ⟨y, hy, rfl⟩ := List.mem_map.1 hx
        exact lay_sz y (List.all_eq_true.1 hg.1 y hy)
      by_cases hrc : resC (l.map layF) = 0
      · obtain ⟨L, hLL⟩ : ∃ L, L = l.map layF := ⟨_, rfl⟩
        rw [← hLL] at hz hrc
        have hLl : L.length = l.length := by rw [hLL, List.length_map]
        have h2 : 2 ≤ L.length ∧ L.all layPos = true := by
          unfold resC at hrc
          split at hrc
          · cases hrc
          · split at hrc
            · rename_i h1 h2; exact ⟨by omega, h2⟩
            · cases hrc
        obtain ⟨h2, hp⟩ := h2
        have hk0 : 0 ≤ b0 % (L.length : Int) := Int.emod_nonneg _ (by omega)
        have hk1 : b0 % (L.length : Int) < L.length := Int.emod_lt_of_pos _ (by omega)
        obtain ⟨k, hkm⟩ : ∃ k : Nat, b0 % (L.length : Int) = k := ⟨_, (Int.toNat_of_nonneg hk0).symm⟩
        have hk : k < L.length := by omega
        obtain ⟨m, hm⟩ : ∃ m : Int, m = 1 + b1 % 9 := ⟨_, rfl⟩
        have hm1 : 1 ≤ m ∧ m ≤ 9 := by omega
        obtain ⟨f, hf⟩ : ∃ f : Rat, (m : Rat) / ((10 : Int) : Rat) = f := ⟨_, rfl⟩
        obtain ⟨n, hn⟩ : ∃ n : Int, n = 1 + b2 := ⟨_, rfl⟩
        obtain ⟨c, hc⟩ : ∃ c : Rat, (n : Rat) = c := ⟨_, rfl⟩
        have sf : SzQ 1 f := hf ▸ szQ_frac (by omega) (by decide) (by decide)
        have sc : SzQ 1 c := hc ▸ szQ_int (by omega)
        have h10 : (0 : Rat) < ((10 : Int) : Rat) := by decide +kernel
        have m0 : (0 : Rat) < (m : Rat) := by exact_mod_cast (show (0 : Int) < m by omega)
        have m1 : (m : Rat) < ((10 : Int) : Rat) := by exact_mod_cast (show m < 10 by omega)
        have f0 : 0 < f := by rw [← hf, Rat.lt_div_iff h10]; grind
        have f1 : f < 1 := by rw [← hf, Rat.div_lt_iff h10]; grind
        have c0 : 0 < c := by rw [← hc]; exact_mod_cast (show (0 : Int) < n by omega)
        have hcl := cutL_length f L k hk
        have hdl : (loudL c L).length = L.length := by unfold loudL; rw [List.length_map]
        have hX : (echoQ L (L.length - 1)).length = L.length - 1 := echoQ_length _ _
        have hU : (echoQ (cutL f L k) ((cutL f L k).length - 1)).length = L.length := by rw [echoQ_length, hcl]; omega
        have hV : (echoQ (loudL c L) ((loudL c L).length - 1)).length = L.length - 1 := by rw [echoQ_length, hdl]
        have hcp := cut_pos hk hp f0 f1
        have hdp := loud_pos hp c0
        have hcz := cut_sz hk hz sf
        have hdz := loud_sz hz sc
        have hS := split_same (f := f) (c := c) hk (fun e => by rw [e] at c0; exact absurd c0 (by decide +kernel)) rfl rfl (show echoQ (loudL c L) (L.length - 1) = echoQ (loudL c L) ((loudL c L).length - 1) by rw [hdl])
        rw [show echoQ (cutL f L k) L.length = echoQ (cutL f L k) ((cutL f L k).length - 1) by rw [hcl]; rfl] at hS
        exact l7_ScanSplit_ok hAw v l b0 b1 b2 w hl hok p0 p1 p2 a0 h6 L hLL hLl h2 hp hz k hk hkm f c (hm ▸ hf) (hn ▸ hc) sf sc _ _ _ rfl rfl rfl (by omega) (by omega) (by omega) (by omega) (by omega) (by omega) hcl hdl hcp hdp hcz hdz hS
          (echo_szs (by omega) (by omega) hz hp rfl) (echo_szs (by omega) (by omega) hcz hcp rfl) (echo_szs (by omega) (by omega) hdz hdp rfl)
      · exact l7_ScanSplit_err hAw v l b0 b1 b2 w hl hok a0 h6 _ rfl hz _ rfl hrc
    · exact l7_ScanSplit_long hAw v l b0 b1 b2 w hl a0 (by omega)
  · exact l7_ScanSplit_dim hAw v l b0 b1 b2 w hl a0
end Go.Proofs.Ytlfnapfnpkhggaa
