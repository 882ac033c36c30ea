/-
  Law 07: ScanPlies, over awake.
-/
import Derived.Test.YtlfnapfnpkhggaaGreatSpan
import Derived.Test.YtlfnapfnpkhggaaGreatNumbers
import Derived.Test.YtlfnapfnpkhggaaGreatPlies
set_option linter.unusedSimpArgs false
set_option linter.unusedVariables false
namespace Go.Proofs.YtlfnapfnpkhggaaGreat
open Go.RowKit Dg
attribute [local go_sem ↓] Go.wp_at_zero Go.wp_at_succ

theorem plF_hit {L : List Rat} {lo hi : Rat} {i : Nat} (h : hitB L lo hi i = true) : ∀ k, i < k → 0 ≤ plF L lo hi k ∧ plF L lo hi k ≤ i
  | 0, hk => absurd hk (by omega)
  | k + 1, hk => by
    by_cases hik : i = k
    · subst hik
      have bd := plF_bd L lo hi i
      by_cases h1 : plF L lo hi i < 0
      · rw [plF_yes h h1]; omega
      · rw [plF_more h h1]; omega
    · have ih := plF_hit h k (by omega)
      by_cases h2 : hitB L lo hi k = true
      · rw [plF_more h2 (by omega)]; exact ih
      · rw [plF_no (by simpa using h2)]; exact ih
theorem plL_hit {L : List Rat} {lo hi : Rat} {i : Nat} (h : hitB L lo hi i = true) : ∀ k, i < k → (i : Int) ≤ plL L lo hi k
  | 0, hk => absurd hk (by omega)
  | k + 1, hk => by
    by_cases hik : i = k
    · subst hik; rw [plL_yes h]; omega
    · have ih := plL_hit h k (by omega)
      by_cases h2 : hitB L lo hi k = true
      · rw [plL_yes h2]; omega
      · rw [plL_no (by simpa using h2)]; exact ih
theorem between_lo {lo hi f : Rat} (h : lo ≤ hi) (h0 : 0 ≤ f) : lo ≤ lo + (hi - lo) * f := by
  have := (Rat.add_le_add_left (c := lo)).2 (Rat.mul_nonneg ((Rat.le_iff_sub_nonneg lo hi).1 h) h0)
  rwa [Rat.add_zero] at this
theorem between_hi {lo hi f : Rat} (h : lo ≤ hi) (h1 : f ≤ 1) : lo + (hi - lo) * f ≤ hi := by
  have h2 := Rat.mul_le_mul_of_nonneg_left h1 ((Rat.le_iff_sub_nonneg lo hi).1 h)
  rw [Rat.mul_one] at h2
  have := (Rat.add_le_add_left (c := lo)).2 h2
  rw [Rat.add_comm lo (hi - lo), Rat.sub_add_cancel] at this
  exact this
theorem part_bd {p : Int} (h0 : 0 ≤ p) (h1 : p ≤ 255) : 0 ≤ ((p : Rat) / ((255 : Int) : Rat)) ∧ ((p : Rat) / ((255 : Int) : Rat)) ≤ 1 := by
  have hp : (0 : Rat) < ((255 : Int) : Rat) := by decide +kernel
  constructor
  · refine Rat.not_lt.1 fun hc => ?_
    rw [Rat.div_lt_iff hp, Rat.zero_mul] at hc
    exact absurd (Rat.intCast_nonneg.2 h0) (Rat.not_le.2 hc)
  · refine Rat.not_lt.1 fun hc => ?_
    have h2 : (p : Rat) ≤ ((255 : Int) : Rat) := Rat.intCast_le_intCast.2 h1
    have h3 : (p : Rat) / ((255 : Int) : Rat) * ((255 : Int) : Rat) = p := Rat.div_mul_cancel (by decide +kernel)
    have h4 := Rat.mul_lt_mul_of_pos_right hc hp
    rw [h3, Rat.one_mul] at h4
    exact absurd h2 (Rat.not_le.2 h4)
theorem hit_of {L : List Rat} {lo hi x : Rat} {i : Nat} (h1 : lo ≤ x) (h2 : x ≤ hi) (h3 : topQ L i ≤ x) (h4 : x ≤ topQ L i + nthQ L i) : hitB L lo hi i = true :=
  hitB_tt (Rat.not_lt.2 (Rat.le_trans h1 h4)) (Rat.not_lt.2 (Rat.le_trans h3 h2))
theorem mnQ_le_mxQ (x y : Rat) : mnQ x y ≤ mxQ x y := by
  unfold mnQ mxQ
  by_cases h : x ≤ y
  · rw [if_pos h]
    by_cases h' : y ≤ x
    · rw [if_pos h']; exact Rat.le_refl
    · rw [if_neg h']; exact h
  · have h' : y ≤ x := Rat.le_of_lt (Rat.not_le.1 h)
    rw [if_neg h, if_pos h']; exact h'
theorem sc_Plies_0 {v vr : Value} {L : List Rat} {lo hi : Rat} {w : World} (hl : Rows 3 40 PC w v L) (h1 : 1 ≤ L.length) (h12 : L.length ≤ 12) (hap : allPos L = true) (hz : ∀ i, i < L.length → SzQ 50000 (nthQ L i)) (hr : PV2 w vr lo hi) (slo : Mid lo) (shi : Mid hi) (h : plF L lo hi L.length < 0) :
    Calls Tryz.prog 32 #[v, vr] w (RetV w (.tuple #[.int .i64 0, .int .i64 0, .int .i64 5])) := plR_no h ▸ sc_Plies_ok v vr L lo hi w hl h1 h12 hap hz hr slo shi
theorem sc_Plies_1 {v vr : Value} {L : List Rat} {lo hi : Rat} {w : World} {F G : Int} (hl : Rows 3 40 PC w v L) (h1 : 1 ≤ L.length) (h12 : L.length ≤ 12) (hap : allPos L = true) (hz : ∀ i, i < L.length → SzQ 50000 (nthQ L i)) (hr : PV2 w vr lo hi) (slo : Mid lo) (shi : Mid hi) (h : ¬ plF L lo hi L.length < 0)
    (hF : plF L lo hi L.length = F) (hG : plL L lo hi L.length = G) :
    Calls Tryz.prog 32 #[v, vr] w (RetV w (.tuple #[.int .i64 F, .int .i64 G, .int .i64 0])) := by
  subst hF hG
  exact plR_yes h ▸ sc_Plies_ok v vr L lo hi w hl h1 h12 hap hz hr slo shi
theorem rowsF2 {w : World} {g : Nat} {T : TypeId} {n1 d1 n2 d2 : Int} (h : Bx w g T #[.int .i64 n1, .int .i64 d1, .int .i64 n2, .int .i64 d2]) : RowsI 2 FC w (.slice (some ⟨g, 0, none⟩) 2 2) [(n1, d1), (n2, d2)] := by
  refine ⟨_, 2, rfl, Nat.le_refl _, by decide, (fun e => by cases e), fun i x hx => ?_⟩
  match i, hx with
  | 0, hx => cases hx; exact ⟨g, 0, [_, _], rfl, rfl, (fun j u hu => by match j, hu with | 0, hu => cases hu; exact h.at 0 rfl | 1, hu => cases hu; exact h.at 1 rfl), rfl⟩
  | 1, hx => cases hx; exact ⟨g, 0, [_, _], rfl, rfl, (fun j u hu => by match j, hu with | 0, hu => cases hu; exact h.at 2 rfl | 1, hu => cases hu; exact h.at 3 rfl), rfl⟩
theorem p_New_part {p : Int} {f : Rat} (w : World) (h0 : 0 ≤ p) (h1 : p ≤ 255) (hf : f = (p : Rat) / ((255 : Int) : Rat)) : Calls Tryz.prog 33 #[.int .i64 p, .int .i64 255] w (RetPE w f 0) := by
  subst hf
  exact p_New_calls p 255 w (by omega) (by omega) (by omega) (by omega) (by omega)
theorem l7_span_ {n1 d1 n2 d2 : Int} {lo hi : Rat} (w : World) (hs1 : shortF (n1, d1) = true) (hs2 : shortF (n2, d2) = true) (o1 : DOk (n1, d1)) (o2 : DOk (n2, d2)) (hlo : lo = mnQ (fracQ n1 d1) (fracQ n2 d2)) (hhi : hi = mxQ (fracQ n1 d1) (fracQ n2 d2)) :
    Calls Tryz.prog 31 #[.agg #[.int .i64 n1, .int .i64 d1, .int .i64 n2, .int .i64 d2]] w (Ret2 (fun w v => PV2 w v lo hi) (fun w v => RV2 w v lo hi) w) := by
  subst hlo hhi
  obtain ⟨a1, a2, a3, a4⟩ := o1
  obtain ⟨b1, b2, b3, b4⟩ := o2
  simp only [shortF, Bool.not_eq_true', Bool.or_eq_false_iff, decide_eq_false_iff_not] at hs1 hs2
  dsimp only at a1 a2 a3 a4 b1 b2 b3 b4
  exact l7_span n1 d1 n2 d2 w (by omega) (by omega) (by omega) (by omega)

set_option maxRecDepth 100000 in
set_option maxHeartbeats 16000000 in
theorem l7_ScanPlies_none (hAw : ∀ w : World, Calls Tryz.prog 12 #[] w (RetV w (.bool true))) (v : Value) (l : List (Int × Int)) (n1 d1 n2 d2 p : Int) (w : World) (hl : RowsI 2 FC w v l) (hok : ∀ x ∈ l, DOk x) (o1 : DOk (n1, d1)) (o2 : DOk (n2, d2)) (hp0 : 0 ≤ p) (hp1 : p ≤ 255) (L : List Rat) (lo hi f : Rat) (hLQ : L = l.map frF) (hlo : lo = mnQ (fracQ n1 d1) (fracQ n2 d2)) (hhi : hi = mxQ (fracQ n1 d1) (fracQ n2 d2)) (hf : f = (p : Rat) / ((255 : Int) : Rat))
    (hsl : l.all shortF = true) (hs3 : [(n1, d1), (n2, d2)].all shortF = true) (h12 : l.length ≤ 12) (h0 : l.length = 0) :
    Calls Tryz.prog 6 #[v, .agg #[.int .i64 n1, .int .i64 d1, .int .i64 n2, .int .i64 d2], .int .u8 p] w (RetV w (.bool true)) := by
  obtain ⟨ao, cap, rfl, hc1, hc2, hc3⟩ := hl.slice
  have hs := Below.refl w.heap.size w
  have hL1 : L.length ≤ l.length := by rw [hLQ]; exact Nat.le_of_eq (List.length_map _)
  have hL2 : l.length ≤ L.length := by rw [hLQ]; exact Nat.le_of_eq (List.length_map _).symm
  have hs12 : shortF (n1, d1) = true ∧ shortF (n2, d2) = true := by simpa using hs3
  have z1 : ∀ i, i < L.length → SzQ 1 (nthQ L i) := fun i hi => by
    subst hLQ
    obtain ⟨x, hx, e⟩ := List.mem_map.1 (List.mem_of_getElem? (nthQ_some hi))
    rw [← e]
    obtain ⟨n, d⟩ := x
    have h1 := List.all_eq_true.1 hsl _ hx
    have h2 := hok _ hx
    obtain ⟨b1, b2, b3, b4⟩ := h2
    simp only [shortF, Bool.not_eq_true', Bool.or_eq_false_iff, decide_eq_false_iff_not] at h1
    dsimp only at b1 b2 b3 b4
    exact szQ_fracQ (by omega) (by omega)
  have hz5 : ∀ i, i < L.length → SzQ 50000 (nthQ L i) := fun i hi => (z1 i hi).mono (by omega)
  have szf : ∀ n d : Int, shortF (n, d) = true → DOk (n, d) → SzQ 1 (fracQ n d) := fun n d h1 h2 => by
    obtain ⟨b1, b2, b3, b4⟩ := h2
    simp only [shortF, Bool.not_eq_true', Bool.or_eq_false_iff, decide_eq_false_iff_not] at h1
    dsimp only at b1 b2 b3 b4
    exact szQ_fracQ (by omega) (by omega)
  have slo : SzQ 1 lo := by rw [hlo]; exact mnQ_sz (szf _ _ hs12.1 o1) (szf _ _ hs12.2 o2)
  have shi : SzQ 1 hi := by rw [hhi]; exact mxQ_sz (szf _ _ hs12.1 o1) (szf _ _ hs12.2 o2)
  have sf : SzQ 1 f := by rw [hf]; exact szQ_frac (by omega) (by decide) (by decide)
  have hlh : lo ≤ hi := by rw [hlo, hhi]; exact mnQ_le_mxQ _ _
  have hfb := part_bd hp0 hp1
  rw [← hf] at hfb
  have HX1 := Lib.hid (between_lo hlh hfb.1)
  have HX2 := Lib.hid (between_hi hlh hfb.2)
  have HTM := Lib.hid (topQ_mid hz5 (by omega))
  have HZ1 := Lib.hid z1
  have HZ5 := Lib.hid hz5
  have HS1 := Lib.hid hs12.1
  have HS2 := Lib.hid hs12.2
  have HS3 := Lib.hid hs3
  have HSL := Lib.hid hsl
  have HO1 := Lib.hid o1
  have HO2 := Lib.hid o2
  have HLQ := Lib.hid hLQ
  have HLO := Lib.hid hlo
  have HHI := Lib.hid hhi
  have HFQ := Lib.hid hf
  have HAW := Lib.hid hAw
  have HL := Lib.hid hl
  have HOK := Lib.hid hok
  have H0 := Lib.hid h0
  clear h0
  clear z1 hz5 hs12 hs3 hsl o1 o2 hlo hhi hf hlh hfb szf hAw hl hok hLQ
  go_enter Tryz.func6, Tryz.ntmps6
  go_wp2_with fail
  refine Calls.abs ?_
  intro w1 hW
  have hG : Gr [] w w1 := by rw [hW]; exact (Gr.refl _ _).alloc
  have hbw : Below w.heap.size w w1 := hG.below0 hs.size
  have hk : KeepD w w1 := hG.keep True.intro
  have sz_w1 : w.heap.size ≤ w.heap.size := hs.size
  have Bldepth : Bx w1 (w.heap.size) 83 #[.int .i64 n1, .int .i64 d1, .int .i64 n2, .int .i64 d2] := by rw [hW]; exact (Bx.new0 _ _ _)
  replace hs := hs.trans hbw
  clear hW hG hk hbw
  have hz_w1 : w.heap.size < w1.heap.size := Bldepth.lt
  with_reducible refine (l7_short _ l _ (HL.out.mono FC.kept hs)).mono ?_
  rintro e w2 ⟨rfl, hb⟩
  replace hs := bStep hs hb
  replace Bldepth := Bldepth.mono hb
  clear hb
  obtain ⟨b1, Hb1⟩ : ∃ b : Bool, b = l.all shortF := ⟨_, rfl⟩
  rw [← Hb1]
  replace Hb1 := Lib.hid Hb1
  have q2 : l.all shortF = true := HSL.out
  obtain rfl : b1 = true := by rw [Hb1.out]; exact q2
  have q2H := Lib.hid q2
  clear q2
  go_wp2_with fail
  with_reducible refine (l7_short _ [(n1, d1), (n2, d2)] _ (rowsF2 Bldepth)).mono ?_
  rintro e w3 ⟨rfl, hb⟩
  replace hs := bStep hs hb
  replace Bldepth := Bldepth.mono hb
  clear hb
  obtain ⟨b3, Hb3⟩ : ∃ b : Bool, b = [(n1, d1), (n2, d2)].all shortF := ⟨_, rfl⟩
  rw [← Hb3]
  replace Hb3 := Lib.hid Hb3
  have q4 : [(n1, d1), (n2, d2)].all shortF = true := HS3.out
  obtain rfl : b3 = true := by rw [Hb3.out]; exact q4
  have q4H := Lib.hid q4
  clear q4
  have q5 : ¬ (12 < l.length) := by omega
  have q5d : ((12 : Int) < (l.length : Int)) = False := eq_false (by omega)
  go_wp2_with fail
  with_reducible refine (l7_numbers _ l _ (HL.out.mono FC.kept hs) (by omega) HOK.out).mono ?_
  rintro e w4 ⟨_, _, rfl, h6, _, hb⟩
  rw [← HLQ.out] at h6
  obtain ⟨ah6, kh6, rfl, h61, h62, h63⟩ := h6.slice
  replace hs := bStep hs hb
  replace Bldepth := Bldepth.mono hb
  clear hb
  have cdepth_0 : w4.cell? ⟨w.heap.size, 0, none⟩ = some (.int .i64 n1) := Bldepth.at 0 rfl
  have cdepth_1 : w4.cell? ⟨w.heap.size, 1, none⟩ = some (.int .i64 d1) := Bldepth.at 1 rfl
  have cdepth_2 : w4.cell? ⟨w.heap.size, 2, none⟩ = some (.int .i64 n2) := Bldepth.at 2 rfl
  have cdepth_3 : w4.cell? ⟨w.heap.size, 3, none⟩ = some (.int .i64 d2) := Bldepth.at 3 rfl
  have Ldepth : w.heap.size < w4.heap.size := Bldepth.lt
  go_wp2_with fail
  clear cdepth_0 cdepth_1 cdepth_2 cdepth_3 Ldepth
  with_reducible refine (l7_span_ _ HS1.out HS2.out HO1.out HO2.out HLO.out HHI.out).mono ?_
  rintro e w5 ⟨_, _, rfl, h7, h8, hb⟩
  obtain ⟨sh7a, ah7a, nh7a, ch7a, Ah7a, Nh7a, Ch7a, sh7b, ah7b, nh7b, ch7b, Ah7b, Nh7b, Ch7b, rfl, h7a, h7b⟩ := h7.shape
  obtain ⟨sh8a, ah8a, nh8a, ch8a, Ah8a, Nh8a, Ch8a, sh8b, ah8b, nh8b, ch8b, Ah8b, Nh8b, Ch8b, rfl, h8a, h8b⟩ := h8.shape
  replace hs := bStep hs hb
  replace Bldepth := Bldepth.mono hb
  replace h6 := rowsPB _ _ _ h6 hb
  clear hb
  go_wp2_with fail
  refine Calls.abs ?_
  intro w6 hW
  have hG : Gr [] w5 w6 := by rw [hW]; exact (Gr.refl _ _).alloc.alloc
  have hbw : Below w.heap.size w5 w6 := hG.below0 hs.size
  have hk : KeepD w5 w6 := hG.keep True.intro
  have sz_w6 : w.heap.size ≤ w5.heap.size := hs.size
  have ndepth_w6 : w.heap.size < w5.heap.size := Bldepth.lt
  have Blr : Bx w6 (w5.heap.size) 86 #[.bool sh7a, .slice ah7a nh7a ch7a, .slice Ah7a Nh7a Ch7a, .bool sh7b, .slice ah7b nh7b ch7b, .slice Ah7b Nh7b Ch7b] := by rw [hW]; exact ((Bx.new0 _ _ _).alloc _)
  have Blk : Bx w6 (w5.heap.size + 1) 88 #[.bool sh8a, .slice ah8a nh8a ch8a, .slice Ah8a Nh8a Ch8a, .bool sh8b, .slice ah8b nh8b ch8b, .slice Ah8b Nh8b Ch8b] := by rw [hW]; exact (Bx.new0 _ _ _)
  replace hs := hs.trans hbw
  replace h6 := rowsPB _ _ _ h6 (hG.below0 (Nat.le_refl _))
  replace Bldepth := hG.bx Bldepth notMem0
  replace h7a := h7a.keep hk
  replace h7b := h7b.keep hk
  replace h8a := h8a.keep hk
  replace h8b := h8b.keep hk
  clear hW hG hk hbw
  have hz_w6 : w5.heap.size + 1 < w6.heap.size := Blk.lt
  with_reducible refine (sc_Plies_none _ _ _ _ _ _ h6 (by have := H0.out; omega) (PV2.mk h7a h7b)).mono ?_
  rintro e w7 ⟨rfl, hb⟩
  replace hs := bStep hs hb
  replace Bldepth := Bldepth.mono hb
  replace Blr := Blr.mono hb
  replace Blk := Blk.mono hb
  replace h7a := h7a.mono hb
  replace h7b := h7b.mono hb
  replace h8a := h8a.mono hb
  replace h8b := h8b.mono hb
  replace h6 := rowsPB _ _ _ h6 hb
  clear hb
  go_wp2_with fail
  with_reducible refine (HAW.out _).mono ?_
  rintro e w8 ⟨rfl, hb⟩
  replace hs := bStep hs hb
  replace Bldepth := Bldepth.mono hb
  replace Blr := Blr.mono hb
  replace Blk := Blk.mono hb
  replace h7a := h7a.mono hb
  replace h7b := h7b.mono hb
  replace h8a := h8a.mono hb
  replace h8b := h8b.mono hb
  replace h6 := rowsPB _ _ _ h6 hb
  clear hb
  go_wp2
  go_ret
  exact ⟨rfl, hs⟩

set_option maxRecDepth 100000 in
set_option maxHeartbeats 16000000 in
theorem l7_ScanPlies_pos (hAw : ∀ w : World, Calls Tryz.prog 12 #[] w (RetV w (.bool true))) (v : Value) (l : List (Int × Int)) (n1 d1 n2 d2 p : Int) (w : World) (hl : RowsI 2 FC w v l) (hok : ∀ x ∈ l, DOk x) (o1 : DOk (n1, d1)) (o2 : DOk (n2, d2)) (hp0 : 0 ≤ p) (hp1 : p ≤ 255) (L : List Rat) (lo hi f : Rat) (hLQ : L = l.map frF) (hlo : lo = mnQ (fracQ n1 d1) (fracQ n2 d2)) (hhi : hi = mxQ (fracQ n1 d1) (fracQ n2 d2)) (hf : f = (p : Rat) / ((255 : Int) : Rat))
    (hsl : l.all shortF = true) (hs3 : [(n1, d1), (n2, d2)].all shortF = true) (h12 : l.length ≤ 12) (h1 : 1 ≤ l.length) (hap : allPos L = false) :
    Calls Tryz.prog 6 #[v, .agg #[.int .i64 n1, .int .i64 d1, .int .i64 n2, .int .i64 d2], .int .u8 p] w (RetV w (.bool true)) := by
  obtain ⟨ao, cap, rfl, hc1, hc2, hc3⟩ := hl.slice
  have hs := Below.refl w.heap.size w
  have hL1 : L.length ≤ l.length := by rw [hLQ]; exact Nat.le_of_eq (List.length_map _)
  have hL2 : l.length ≤ L.length := by rw [hLQ]; exact Nat.le_of_eq (List.length_map _).symm
  have hs12 : shortF (n1, d1) = true ∧ shortF (n2, d2) = true := by simpa using hs3
  have z1 : ∀ i, i < L.length → SzQ 1 (nthQ L i) := fun i hi => by
    subst hLQ
    obtain ⟨x, hx, e⟩ := List.mem_map.1 (List.mem_of_getElem? (nthQ_some hi))
    rw [← e]
    obtain ⟨n, d⟩ := x
    have h1 := List.all_eq_true.1 hsl _ hx
    have h2 := hok _ hx
    obtain ⟨b1, b2, b3, b4⟩ := h2
    simp only [shortF, Bool.not_eq_true', Bool.or_eq_false_iff, decide_eq_false_iff_not] at h1
    dsimp only at b1 b2 b3 b4
    exact szQ_fracQ (by omega) (by omega)
  have hz5 : ∀ i, i < L.length → SzQ 50000 (nthQ L i) := fun i hi => (z1 i hi).mono (by omega)
  have szf : ∀ n d : Int, shortF (n, d) = true → DOk (n, d) → SzQ 1 (fracQ n d) := fun n d h1 h2 => by
    obtain ⟨b1, b2, b3, b4⟩ := h2
    simp only [shortF, Bool.not_eq_true', Bool.or_eq_false_iff, decide_eq_false_iff_not] at h1
    dsimp only at b1 b2 b3 b4
    exact szQ_fracQ (by omega) (by omega)
  have slo : SzQ 1 lo := by rw [hlo]; exact mnQ_sz (szf _ _ hs12.1 o1) (szf _ _ hs12.2 o2)
  have shi : SzQ 1 hi := by rw [hhi]; exact mxQ_sz (szf _ _ hs12.1 o1) (szf _ _ hs12.2 o2)
  have sf : SzQ 1 f := by rw [hf]; exact szQ_frac (by omega) (by decide) (by decide)
  have hlh : lo ≤ hi := by rw [hlo, hhi]; exact mnQ_le_mxQ _ _
  have hfb := part_bd hp0 hp1
  rw [← hf] at hfb
  have HX1 := Lib.hid (between_lo hlh hfb.1)
  have HX2 := Lib.hid (between_hi hlh hfb.2)
  have HTM := Lib.hid (topQ_mid hz5 (by omega))
  have HZ1 := Lib.hid z1
  have HZ5 := Lib.hid hz5
  have HS1 := Lib.hid hs12.1
  have HS2 := Lib.hid hs12.2
  have HS3 := Lib.hid hs3
  have HSL := Lib.hid hsl
  have HO1 := Lib.hid o1
  have HO2 := Lib.hid o2
  have HLQ := Lib.hid hLQ
  have HLO := Lib.hid hlo
  have HHI := Lib.hid hhi
  have HFQ := Lib.hid hf
  have HAW := Lib.hid hAw
  have HL := Lib.hid hl
  have HOK := Lib.hid hok
  have HAP := Lib.hid hap
  clear z1 hz5 hs12 hs3 hsl o1 o2 hlo hhi hf hlh hfb szf hAw hl hok hLQ hap
  go_enter Tryz.func6, Tryz.ntmps6
  go_wp2_with fail
  refine Calls.abs ?_
  intro w1 hW
  have hG : Gr [] w w1 := by rw [hW]; exact (Gr.refl _ _).alloc
  have hbw : Below w.heap.size w w1 := hG.below0 hs.size
  have hk : KeepD w w1 := hG.keep True.intro
  have sz_w1 : w.heap.size ≤ w.heap.size := hs.size
  have Bldepth : Bx w1 (w.heap.size) 83 #[.int .i64 n1, .int .i64 d1, .int .i64 n2, .int .i64 d2] := by rw [hW]; exact (Bx.new0 _ _ _)
  replace hs := hs.trans hbw
  clear hW hG hk hbw
  have hz_w1 : w.heap.size < w1.heap.size := Bldepth.lt
  with_reducible refine (l7_short _ l _ (HL.out.mono FC.kept hs)).mono ?_
  rintro e w2 ⟨rfl, hb⟩
  replace hs := bStep hs hb
  replace Bldepth := Bldepth.mono hb
  clear hb
  obtain ⟨b1, Hb1⟩ : ∃ b : Bool, b = l.all shortF := ⟨_, rfl⟩
  rw [← Hb1]
  replace Hb1 := Lib.hid Hb1
  have q2 : l.all shortF = true := HSL.out
  obtain rfl : b1 = true := by rw [Hb1.out]; exact q2
  have q2H := Lib.hid q2
  clear q2
  go_wp2_with fail
  with_reducible refine (l7_short _ [(n1, d1), (n2, d2)] _ (rowsF2 Bldepth)).mono ?_
  rintro e w3 ⟨rfl, hb⟩
  replace hs := bStep hs hb
  replace Bldepth := Bldepth.mono hb
  clear hb
  obtain ⟨b3, Hb3⟩ : ∃ b : Bool, b = [(n1, d1), (n2, d2)].all shortF := ⟨_, rfl⟩
  rw [← Hb3]
  replace Hb3 := Lib.hid Hb3
  have q4 : [(n1, d1), (n2, d2)].all shortF = true := HS3.out
  obtain rfl : b3 = true := by rw [Hb3.out]; exact q4
  have q4H := Lib.hid q4
  clear q4
  have q5 : ¬ (12 < l.length) := by omega
  have q5d : ((12 : Int) < (l.length : Int)) = False := eq_false (by omega)
  go_wp2_with fail
  with_reducible refine (l7_numbers _ l _ (HL.out.mono FC.kept hs) (by omega) HOK.out).mono ?_
  rintro e w4 ⟨_, _, rfl, h6, _, hb⟩
  rw [← HLQ.out] at h6
  obtain ⟨bh6, oh6, kh6, rfl, h61, h62, -⟩ := h6.open_ (by omega)
  replace hs := bStep hs hb
  replace Bldepth := Bldepth.mono hb
  clear hb
  have cdepth_0 : w4.cell? ⟨w.heap.size, 0, none⟩ = some (.int .i64 n1) := Bldepth.at 0 rfl
  have cdepth_1 : w4.cell? ⟨w.heap.size, 1, none⟩ = some (.int .i64 d1) := Bldepth.at 1 rfl
  have cdepth_2 : w4.cell? ⟨w.heap.size, 2, none⟩ = some (.int .i64 n2) := Bldepth.at 2 rfl
  have cdepth_3 : w4.cell? ⟨w.heap.size, 3, none⟩ = some (.int .i64 d2) := Bldepth.at 3 rfl
  have Ldepth : w.heap.size < w4.heap.size := Bldepth.lt
  go_wp2_with fail
  clear cdepth_0 cdepth_1 cdepth_2 cdepth_3 Ldepth
  with_reducible refine (l7_span_ _ HS1.out HS2.out HO1.out HO2.out HLO.out HHI.out).mono ?_
  rintro e w5 ⟨_, _, rfl, h7, h8, hb⟩
  obtain ⟨sh7a, ah7a, nh7a, ch7a, Ah7a, Nh7a, Ch7a, sh7b, ah7b, nh7b, ch7b, Ah7b, Nh7b, Ch7b, rfl, h7a, h7b⟩ := h7.shape
  obtain ⟨sh8a, ah8a, nh8a, ch8a, Ah8a, Nh8a, Ch8a, sh8b, ah8b, nh8b, ch8b, Ah8b, Nh8b, Ch8b, rfl, h8a, h8b⟩ := h8.shape
  replace hs := bStep hs hb
  replace Bldepth := Bldepth.mono hb
  replace h6 := rowsPB _ _ _ h6 hb
  clear hb
  go_wp2_with fail
  refine Calls.abs ?_
  intro w6 hW
  have hG : Gr [] w5 w6 := by rw [hW]; exact (Gr.refl _ _).alloc.alloc
  have hbw : Below w.heap.size w5 w6 := hG.below0 hs.size
  have hk : KeepD w5 w6 := hG.keep True.intro
  have sz_w6 : w.heap.size ≤ w5.heap.size := hs.size
  have ndepth_w6 : w.heap.size < w5.heap.size := Bldepth.lt
  have nh6_w6 : bh6 < w5.heap.size := h6.lt (by omega)
  have Blr : Bx w6 (w5.heap.size) 86 #[.bool sh7a, .slice ah7a nh7a ch7a, .slice Ah7a Nh7a Ch7a, .bool sh7b, .slice ah7b nh7b ch7b, .slice Ah7b Nh7b Ch7b] := by rw [hW]; exact ((Bx.new0 _ _ _).alloc _)
  have Blk : Bx w6 (w5.heap.size + 1) 88 #[.bool sh8a, .slice ah8a nh8a ch8a, .slice Ah8a Nh8a Ch8a, .bool sh8b, .slice ah8b nh8b ch8b, .slice Ah8b Nh8b Ch8b] := by rw [hW]; exact (Bx.new0 _ _ _)
  replace hs := hs.trans hbw
  replace h6 := rowsPB _ _ _ h6 (hG.below0 (Nat.le_refl _))
  replace Bldepth := hG.bx Bldepth notMem0
  replace h7a := h7a.keep hk
  replace h7b := h7b.keep hk
  replace h8a := h8a.keep hk
  replace h8b := h8b.keep hk
  clear hW hG hk hbw
  have hz_w6 : w5.heap.size + 1 < w6.heap.size := Blk.lt
  with_reducible refine (sc_Plies_pos _ _ _ _ _ _ h6 (by omega) (by omega) HAP.out (PV2.mk h7a h7b)).mono ?_
  rintro e w7 ⟨rfl, hb⟩
  replace hs := bStep hs hb
  replace Bldepth := Bldepth.mono hb
  replace Blr := Blr.mono hb
  replace Blk := Blk.mono hb
  replace h7a := h7a.mono hb
  replace h7b := h7b.mono hb
  replace h8a := h8a.mono hb
  replace h8b := h8b.mono hb
  replace h6 := rowsPB _ _ _ h6 hb
  clear hb
  go_wp2_with fail
  with_reducible refine (HAW.out _).mono ?_
  rintro e w8 ⟨rfl, hb⟩
  replace hs := bStep hs hb
  replace Bldepth := Bldepth.mono hb
  replace Blr := Blr.mono hb
  replace Blk := Blk.mono hb
  replace h7a := h7a.mono hb
  replace h7b := h7b.mono hb
  replace h8a := h8a.mono hb
  replace h8b := h8b.mono hb
  replace h6 := rowsPB _ _ _ h6 hb
  clear hb
  go_wp2
  go_ret
  exact ⟨rfl, hs⟩

set_option maxRecDepth 100000 in
set_option maxHeartbeats 16000000 in
theorem l7_ScanPlies_no (hAw : ∀ w : World, Calls Tryz.prog 12 #[] w (RetV w (.bool true))) (v : Value) (l : List (Int × Int)) (n1 d1 n2 d2 p : Int) (w : World) (hl : RowsI 2 FC w v l) (hok : ∀ x ∈ l, DOk x) (o1 : DOk (n1, d1)) (o2 : DOk (n2, d2)) (hp0 : 0 ≤ p) (hp1 : p ≤ 255) (L : List Rat) (lo hi f : Rat) (hLQ : L = l.map frF) (hlo : lo = mnQ (fracQ n1 d1) (fracQ n2 d2)) (hhi : hi = mxQ (fracQ n1 d1) (fracQ n2 d2)) (hf : f = (p : Rat) / ((255 : Int) : Rat))
    (hsl : l.all shortF = true) (hs3 : [(n1, d1), (n2, d2)].all shortF = true) (h12 : l.length ≤ 12) (h1 : 1 ≤ l.length) (hap : allPos L = true) (hpf : plF L lo hi L.length < 0) :
    Calls Tryz.prog 6 #[v, .agg #[.int .i64 n1, .int .i64 d1, .int .i64 n2, .int .i64 d2], .int .u8 p] w (RetV w (.bool true)) := by
  obtain ⟨ao, cap, rfl, hc1, hc2, hc3⟩ := hl.slice
  have hs := Below.refl w.heap.size w
  have hL1 : L.length ≤ l.length := by rw [hLQ]; exact Nat.le_of_eq (List.length_map _)
  have hL2 : l.length ≤ L.length := by rw [hLQ]; exact Nat.le_of_eq (List.length_map _).symm
  have hs12 : shortF (n1, d1) = true ∧ shortF (n2, d2) = true := by simpa using hs3
  have z1 : ∀ i, i < L.length → SzQ 1 (nthQ L i) := fun i hi => by
    subst hLQ
    obtain ⟨x, hx, e⟩ := List.mem_map.1 (List.mem_of_getElem? (nthQ_some hi))
    rw [← e]
    obtain ⟨n, d⟩ := x
    have h1 := List.all_eq_true.1 hsl _ hx
    have h2 := hok _ hx
    obtain ⟨b1, b2, b3, b4⟩ := h2
    simp only [shortF, Bool.not_eq_true', Bool.or_eq_false_iff, decide_eq_false_iff_not] at h1
    dsimp only at b1 b2 b3 b4
    exact szQ_fracQ (by omega) (by omega)
  have hz5 : ∀ i, i < L.length → SzQ 50000 (nthQ L i) := fun i hi => (z1 i hi).mono (by omega)
  have szf : ∀ n d : Int, shortF (n, d) = true → DOk (n, d) → SzQ 1 (fracQ n d) := fun n d h1 h2 => by
    obtain ⟨b1, b2, b3, b4⟩ := h2
    simp only [shortF, Bool.not_eq_true', Bool.or_eq_false_iff, decide_eq_false_iff_not] at h1
    dsimp only at b1 b2 b3 b4
    exact szQ_fracQ (by omega) (by omega)
  have slo : SzQ 1 lo := by rw [hlo]; exact mnQ_sz (szf _ _ hs12.1 o1) (szf _ _ hs12.2 o2)
  have shi : SzQ 1 hi := by rw [hhi]; exact mxQ_sz (szf _ _ hs12.1 o1) (szf _ _ hs12.2 o2)
  have sf : SzQ 1 f := by rw [hf]; exact szQ_frac (by omega) (by decide) (by decide)
  have hlh : lo ≤ hi := by rw [hlo, hhi]; exact mnQ_le_mxQ _ _
  have hfb := part_bd hp0 hp1
  rw [← hf] at hfb
  have HX1 := Lib.hid (between_lo hlh hfb.1)
  have HX2 := Lib.hid (between_hi hlh hfb.2)
  have HTM := Lib.hid (topQ_mid hz5 (by omega))
  have HZ1 := Lib.hid z1
  have HZ5 := Lib.hid hz5
  have HS1 := Lib.hid hs12.1
  have HS2 := Lib.hid hs12.2
  have HS3 := Lib.hid hs3
  have HSL := Lib.hid hsl
  have HO1 := Lib.hid o1
  have HO2 := Lib.hid o2
  have HLQ := Lib.hid hLQ
  have HLO := Lib.hid hlo
  have HHI := Lib.hid hhi
  have HFQ := Lib.hid hf
  have HAW := Lib.hid hAw
  have HL := Lib.hid hl
  have HOK := Lib.hid hok
  have HAP := Lib.hid hap
  have HPF := Lib.hid hpf
  clear z1 hz5 hs12 hs3 hsl o1 o2 hlo hhi hf hlh hfb szf hAw hl hok hLQ hap hpf
  go_enter Tryz.func6, Tryz.ntmps6
  go_wp2_with fail
  refine Calls.abs ?_
  intro w1 hW
  have hG : Gr [] w w1 := by rw [hW]; exact (Gr.refl _ _).alloc
  have hbw : Below w.heap.size w w1 := hG.below0 hs.size
  have hk : KeepD w w1 := hG.keep True.intro
  have sz_w1 : w.heap.size ≤ w.heap.size := hs.size
  have Bldepth : Bx w1 (w.heap.size) 83 #[.int .i64 n1, .int .i64 d1, .int .i64 n2, .int .i64 d2] := by rw [hW]; exact (Bx.new0 _ _ _)
  replace hs := hs.trans hbw
  clear hW hG hk hbw
  have hz_w1 : w.heap.size < w1.heap.size := Bldepth.lt
  with_reducible refine (l7_short _ l _ (HL.out.mono FC.kept hs)).mono ?_
  rintro e w2 ⟨rfl, hb⟩
  replace hs := bStep hs hb
  replace Bldepth := Bldepth.mono hb
  clear hb
  obtain ⟨b1, Hb1⟩ : ∃ b : Bool, b = l.all shortF := ⟨_, rfl⟩
  rw [← Hb1]
  replace Hb1 := Lib.hid Hb1
  have q2 : l.all shortF = true := HSL.out
  obtain rfl : b1 = true := by rw [Hb1.out]; exact q2
  have q2H := Lib.hid q2
  clear q2
  go_wp2_with fail
  with_reducible refine (l7_short _ [(n1, d1), (n2, d2)] _ (rowsF2 Bldepth)).mono ?_
  rintro e w3 ⟨rfl, hb⟩
  replace hs := bStep hs hb
  replace Bldepth := Bldepth.mono hb
  clear hb
  obtain ⟨b3, Hb3⟩ : ∃ b : Bool, b = [(n1, d1), (n2, d2)].all shortF := ⟨_, rfl⟩
  rw [← Hb3]
  replace Hb3 := Lib.hid Hb3
  have q4 : [(n1, d1), (n2, d2)].all shortF = true := HS3.out
  obtain rfl : b3 = true := by rw [Hb3.out]; exact q4
  have q4H := Lib.hid q4
  clear q4
  have q5 : ¬ (12 < l.length) := by omega
  have q5d : ((12 : Int) < (l.length : Int)) = False := eq_false (by omega)
  go_wp2_with fail
  with_reducible refine (l7_numbers _ l _ (HL.out.mono FC.kept hs) (by omega) HOK.out).mono ?_
  rintro e w4 ⟨_, _, rfl, h6, _, hb⟩
  rw [← HLQ.out] at h6
  obtain ⟨bh6, oh6, kh6, rfl, h61, h62, -⟩ := h6.open_ (by omega)
  replace hs := bStep hs hb
  replace Bldepth := Bldepth.mono hb
  clear hb
  have cdepth_0 : w4.cell? ⟨w.heap.size, 0, none⟩ = some (.int .i64 n1) := Bldepth.at 0 rfl
  have cdepth_1 : w4.cell? ⟨w.heap.size, 1, none⟩ = some (.int .i64 d1) := Bldepth.at 1 rfl
  have cdepth_2 : w4.cell? ⟨w.heap.size, 2, none⟩ = some (.int .i64 n2) := Bldepth.at 2 rfl
  have cdepth_3 : w4.cell? ⟨w.heap.size, 3, none⟩ = some (.int .i64 d2) := Bldepth.at 3 rfl
  have Ldepth : w.heap.size < w4.heap.size := Bldepth.lt
  go_wp2_with fail
  clear cdepth_0 cdepth_1 cdepth_2 cdepth_3 Ldepth
  with_reducible refine (l7_span_ _ HS1.out HS2.out HO1.out HO2.out HLO.out HHI.out).mono ?_
  rintro e w5 ⟨_, _, rfl, h7, h8, hb⟩
  obtain ⟨sh7a, ah7a, nh7a, ch7a, Ah7a, Nh7a, Ch7a, sh7b, ah7b, nh7b, ch7b, Ah7b, Nh7b, Ch7b, rfl, h7a, h7b⟩ := h7.shape
  obtain ⟨sh8a, ah8a, nh8a, ch8a, Ah8a, Nh8a, Ch8a, sh8b, ah8b, nh8b, ch8b, Ah8b, Nh8b, Ch8b, rfl, h8a, h8b⟩ := h8.shape
  replace hs := bStep hs hb
  replace Bldepth := Bldepth.mono hb
  replace h6 := rowsPB _ _ _ h6 hb
  clear hb
  go_wp2_with fail
  refine Calls.abs ?_
  intro w6 hW
  have hG : Gr [] w5 w6 := by rw [hW]; exact (Gr.refl _ _).alloc.alloc
  have hbw : Below w.heap.size w5 w6 := hG.below0 hs.size
  have hk : KeepD w5 w6 := hG.keep True.intro
  have sz_w6 : w.heap.size ≤ w5.heap.size := hs.size
  have ndepth_w6 : w.heap.size < w5.heap.size := Bldepth.lt
  have nh6_w6 : bh6 < w5.heap.size := h6.lt (by omega)
  have Blr : Bx w6 (w5.heap.size) 86 #[.bool sh7a, .slice ah7a nh7a ch7a, .slice Ah7a Nh7a Ch7a, .bool sh7b, .slice ah7b nh7b ch7b, .slice Ah7b Nh7b Ch7b] := by rw [hW]; exact ((Bx.new0 _ _ _).alloc _)
  have Blk : Bx w6 (w5.heap.size + 1) 88 #[.bool sh8a, .slice ah8a nh8a ch8a, .slice Ah8a Nh8a Ch8a, .bool sh8b, .slice ah8b nh8b ch8b, .slice Ah8b Nh8b Ch8b] := by rw [hW]; exact (Bx.new0 _ _ _)
  replace hs := hs.trans hbw
  replace h6 := rowsPB _ _ _ h6 (hG.below0 (Nat.le_refl _))
  replace Bldepth := hG.bx Bldepth notMem0
  replace h7a := h7a.keep hk
  replace h7b := h7b.keep hk
  replace h8a := h8a.keep hk
  replace h8b := h8b.keep hk
  clear hW hG hk hbw
  have hz_w6 : w5.heap.size + 1 < w6.heap.size := Blk.lt
  with_reducible refine (sc_Plies_0 h6 (by omega) (by omega) HAP.out HZ5.out (PV2.mk h7a h7b) (SzQ.mid slo) (SzQ.mid shi) HPF.out).mono ?_
  rintro e w7 ⟨rfl, hb⟩
  replace hs := bStep hs hb
  replace Bldepth := Bldepth.mono hb
  replace Blr := Blr.mono hb
  replace Blk := Blk.mono hb
  replace h7a := h7a.mono hb
  replace h7b := h7b.mono hb
  replace h8a := h8a.mono hb
  replace h8b := h8b.mono hb
  replace h6 := rowsPB _ _ _ h6 hb
  clear hb
  go_wp2_with fail
  with_reducible refine (p_New_part _ (by omega) (by omega) HFQ.out).mono ?_
  rintro e w8 ⟨_, rfl, h9, hb⟩
  obtain ⟨sh9, ah9, nh9, ch9, Ah9, Nh9, Ch9, rfl⟩ := h9.shape
  replace hs := bStep hs hb
  replace Bldepth := Bldepth.mono hb
  replace Blr := Blr.mono hb
  replace Blk := Blk.mono hb
  replace h7a := h7a.mono hb
  replace h7b := h7b.mono hb
  replace h8a := h8a.mono hb
  replace h8b := h8b.mono hb
  replace h6 := rowsPB _ _ _ h6 hb
  clear hb
  go_upto_region 9 with fail
  refine Code.abs ?_
  intro w9 hW
  have hG : Gr [] w8 w9 := by rw [hW]; exact (Gr.refl _ _).alloc
  have hbw : Below w.heap.size w8 w9 := hG.below0 hs.size
  have hk : KeepD w8 w9 := hG.keep True.intro
  have sz_w9 : w.heap.size ≤ w8.heap.size := hs.size
  have ndepth_w9 : w.heap.size < w8.heap.size := Bldepth.lt
  have nr_w9 : w5.heap.size < w8.heap.size := Blr.lt
  have nk_w9 : w5.heap.size + 1 < w8.heap.size := Blk.lt
  have nh6_w9 : bh6 < w8.heap.size := h6.lt (by omega)
  have Blf : Bx w9 (w8.heap.size) 40 #[.bool sh9, .slice ah9 nh9 ch9, .slice Ah9 Nh9 Ch9] := by rw [hW]; exact (Bx.new0 _ _ _)
  replace hs := hs.trans hbw
  replace h6 := rowsPB _ _ _ h6 (hG.below0 (Nat.le_refl _))
  replace Bldepth := hG.bx Bldepth notMem0
  replace Blr := hG.bx Blr notMem0
  replace Blk := hG.bx Blk notMem0
  replace h7a := h7a.keep hk
  replace h7b := h7b.keep hk
  replace h8a := h8a.keep hk
  replace h8b := h8b.keep hk
  replace h9 := h9.keep hk
  clear hW hG hk hbw
  have hz_w9 : w8.heap.size < w9.heap.size := Blf.lt
  go_cut [16] (fun kv wz => ∃ gx sh13 ah13 nh13 ch13 Ah13 Nh13 Ch13, kv = .pointer (some ⟨gx, 0, none⟩) ∧ w.heap.size ≤ gx ∧ gx ≠ w.heap.size ∧ gx ≠ w5.heap.size ∧ gx ≠ (w5.heap.size + 1) ∧ gx ≠ w8.heap.size ∧ bh6 ≠ gx ∧ Bx wz gx 40 #[.bool sh13, .slice ah13 nh13 ch13, .slice Ah13 Nh13 Ch13] ∧ Below w.heap.size w wz ∧ Bx wz (w.heap.size) 83 #[.int .i64 n1, .int .i64 d1, .int .i64 n2, .int .i64 d2] ∧ Bx wz (w5.heap.size) 86 #[.bool sh7a, .slice ah7a nh7a ch7a, .slice Ah7a Nh7a Ch7a, .bool sh7b, .slice ah7b nh7b ch7b, .slice Ah7b Nh7b Ch7b] ∧ Bx wz (w5.heap.size + 1) 88 #[.bool sh8a, .slice ah8a nh8a ch8a, .slice Ah8a Nh8a Ch8a, .bool sh8b, .slice ah8b nh8b ch8b, .slice Ah8b Nh8b Ch8b] ∧ Bx wz (w8.heap.size) 40 #[.bool sh9, .slice ah9 nh9 ch9, .slice Ah9 Nh9 Ch9] ∧ PV wz (.agg #[.bool sh7a, .slice ah7a nh7a ch7a, .slice Ah7a Nh7a Ch7a]) (lo) ∧ PV wz (.agg #[.bool sh7b, .slice ah7b nh7b ch7b, .slice Ah7b Nh7b Ch7b]) (hi) ∧ RV wz (.agg #[.bool sh8a, .slice ah8a nh8a ch8a, .slice Ah8a Nh8a Ch8a]) (lo) ∧ RV wz (.agg #[.bool sh8b, .slice ah8b nh8b ch8b, .slice Ah8b Nh8b Ch8b]) (hi) ∧ PV wz (.agg #[.bool sh9, .slice ah9 nh9 ch9, .slice Ah9 Nh9 Ch9]) (f) ∧ PV wz (.agg #[.bool sh13, .slice ah13 nh13 ch13, .slice Ah13 Nh13 Ch13]) (lo + ((hi - lo) * f)) ∧ Rows 3 40 PC wz (.slice (some ⟨bh6, oh6, none⟩) L.length kh6) L)
  case first =>
    refine U_region (S := fun w' => w'.cell? ⟨w5.heap.size, 0, none⟩ = some (.bool sh7a) ∧ w'.cell? ⟨w5.heap.size, 1, none⟩ = some (.slice ah7a nh7a ch7a) ∧ w'.cell? ⟨w5.heap.size, 2, none⟩ = some (.slice Ah7a Nh7a Ch7a) ∧ w'.cell? ⟨w5.heap.size, 3, none⟩ = some (.bool sh7b) ∧ w'.cell? ⟨w5.heap.size, 4, none⟩ = some (.slice ah7b nh7b ch7b) ∧ w'.cell? ⟨w5.heap.size, 5, none⟩ = some (.slice Ah7b Nh7b Ch7b) ∧ w'.cell? ⟨w8.heap.size, 0, none⟩ = some (.bool sh9) ∧ w'.cell? ⟨w8.heap.size, 1, none⟩ = some (.slice ah9 nh9 ch9) ∧ w'.cell? ⟨w8.heap.size, 2, none⟩ = some (.slice Ah9 Nh9 Ch9)) (by kernel_rfl) 8 ?_
    refine AnyU.abs ?_
    intro w10 hW
    have hb : Below w9.heap.size w9 w10 := by rw [hW]; exact bDrew _
    replace hs := bStep hs hb
    replace Bldepth := Bldepth.mono hb
    replace Blr := Blr.mono hb
    replace Blk := Blk.mono hb
    replace Blf := Blf.mono hb
    replace h7a := h7a.mono hb
    replace h7b := h7b.mono hb
    replace h8a := h8a.mono hb
    replace h8b := h8b.mono hb
    replace h9 := h9.mono hb
    replace h6 := rowsPB _ _ _ h6 hb
    clear hb hW
    have cr_0 : w10.cell? ⟨w5.heap.size, 0, none⟩ = some (.bool sh7a) := Blr.at 0 rfl
    have cr_1 : w10.cell? ⟨w5.heap.size, 1, none⟩ = some (.slice ah7a nh7a ch7a) := Blr.at 1 rfl
    have cr_2 : w10.cell? ⟨w5.heap.size, 2, none⟩ = some (.slice Ah7a Nh7a Ch7a) := Blr.at 2 rfl
    have cr_3 : w10.cell? ⟨w5.heap.size, 3, none⟩ = some (.bool sh7b) := Blr.at 3 rfl
    have cr_4 : w10.cell? ⟨w5.heap.size, 4, none⟩ = some (.slice ah7b nh7b ch7b) := Blr.at 4 rfl
    have cr_5 : w10.cell? ⟨w5.heap.size, 5, none⟩ = some (.slice Ah7b Nh7b Ch7b) := Blr.at 5 rfl
    have cf_0 : w10.cell? ⟨w8.heap.size, 0, none⟩ = some (.bool sh9) := Blf.at 0 rfl
    have cf_1 : w10.cell? ⟨w8.heap.size, 1, none⟩ = some (.slice ah9 nh9 ch9) := Blf.at 1 rfl
    have cf_2 : w10.cell? ⟨w8.heap.size, 2, none⟩ = some (.slice Ah9 Nh9 Ch9) := Blf.at 2 rfl
    have hH := (show w10.cell? ⟨w5.heap.size, 0, none⟩ = some (.bool sh7a) ∧ w10.cell? ⟨w5.heap.size, 1, none⟩ = some (.slice ah7a nh7a ch7a) ∧ w10.cell? ⟨w5.heap.size, 2, none⟩ = some (.slice Ah7a Nh7a Ch7a) ∧ w10.cell? ⟨w5.heap.size, 3, none⟩ = some (.bool sh7b) ∧ w10.cell? ⟨w5.heap.size, 4, none⟩ = some (.slice ah7b nh7b ch7b) ∧ w10.cell? ⟨w5.heap.size, 5, none⟩ = some (.slice Ah7b Nh7b Ch7b) ∧ w10.cell? ⟨w8.heap.size, 0, none⟩ = some (.bool sh9) ∧ w10.cell? ⟨w8.heap.size, 1, none⟩ = some (.slice ah9 nh9 ch9) ∧ w10.cell? ⟨w8.heap.size, 2, none⟩ = some (.slice Ah9 Nh9 Ch9) from ⟨cr_0, cr_1, cr_2, cr_3, cr_4, cr_5, cf_0, cf_1, cf_2⟩)
    refine U_take (i := 0) (v := ?_) rfl (by kernel_rfl) (by kernel_rfl) (by kernel_rfl) (by kernel_rfl) (fun _ _ _ h => h) (Or.inl ⟨by rfl, ?_⟩) hH ?_
    rotate_left
    · intro w hSw
      try dsimp only at hSw
      go_simp
      try with_reducible rfl
    try simp only [Act.put, List.setIfInBounds_toArray, List.set_cons_zero, List.set_cons_succ]
    refine U_take (i := 2) (v := ?_) rfl (by kernel_rfl) (by kernel_rfl) (by kernel_rfl) (by kernel_rfl) (fun _ _ _ h => h) (Or.inl ⟨by rfl, ?_⟩) hH ?_
    rotate_left
    · intro w hSw
      try dsimp only at hSw
      go_simp
      try with_reducible rfl
    try simp only [Act.put, List.setIfInBounds_toArray, List.set_cons_zero, List.set_cons_succ]
    refine U_take (i := 4) (v := ?_) rfl (by kernel_rfl) (by kernel_rfl) (by kernel_rfl) (by kernel_rfl) (fun _ _ _ h => h) (Or.inl ⟨by rfl, ?_⟩) hH ?_
    rotate_left
    · intro w hSw
      try dsimp only at hSw
      go_simp
      try with_reducible rfl
    try simp only [Act.put, List.setIfInBounds_toArray, List.set_cons_zero, List.set_cons_succ]
    refine U_two (i := 1) (j := 7) (by kernel_rfl) rfl rfl (fun K hK => ?_) (fun K hK => ?_)
    · clear hH
      go_simp
      (with_reducible refine (p_Lo _ _ _ _ (PV2.mk h7a h7b)).mono ?_)
      rintro e w11 ⟨_, rfl, h10, hb⟩
      obtain ⟨sh10, ah10, nh10, ch10, Ah10, Nh10, Ch10, rfl⟩ := h10.shape
      replace hs := bStep hs hb
      replace Bldepth := Bldepth.mono hb
      replace Blr := Blr.mono hb
      replace Blk := Blk.mono hb
      replace Blf := Blf.mono hb
      replace h7a := h7a.mono hb
      replace h7b := h7b.mono hb
      replace h8a := h8a.mono hb
      replace h8b := h8b.mono hb
      replace h9 := h9.mono hb
      replace h6 := rowsPB _ _ _ h6 hb
      replace cr_0 := cellK cr_0 hb
      replace cr_1 := cellK cr_1 hb
      replace cr_2 := cellK cr_2 hb
      replace cr_3 := cellK cr_3 hb
      replace cr_4 := cellK cr_4 hb
      replace cr_5 := cellK cr_5 hb
      replace cf_0 := cellK cf_0 hb
      replace cf_1 := cellK cf_1 hb
      replace cf_2 := cellK cf_2 hb
      clear hb
      try go_wp2_with fail
      refine hK.out _ _ ⟨cr_0, cr_1, cr_2, cr_3, cr_4, cr_5, cf_0, cf_1, cf_2⟩ (fun hH => ?_)
      clear hK K
      try simp only [Act.put, List.setIfInBounds_toArray, List.set_cons_zero, List.set_cons_succ]
      refine U_two (i := 3) (j := 7) (by kernel_rfl) rfl rfl (fun K hK => ?_) (fun K hK => ?_)
      · clear hH
        go_simp
        (with_reducible refine (p_Width _ _ _ _ (PV2.mk h7a h7b) (SzQ.mid slo) (SzQ.mid shi)).mono ?_)
        rintro e w12 ⟨_, rfl, h11, hb⟩
        obtain ⟨sh11, ah11, nh11, ch11, Ah11, Nh11, Ch11, rfl⟩ := h11.shape
        replace hs := bStep hs hb
        replace Bldepth := Bldepth.mono hb
        replace Blr := Blr.mono hb
        replace Blk := Blk.mono hb
        replace Blf := Blf.mono hb
        replace h7a := h7a.mono hb
        replace h7b := h7b.mono hb
        replace h8a := h8a.mono hb
        replace h8b := h8b.mono hb
        replace h9 := h9.mono hb
        replace h10 := h10.mono hb
        replace h6 := rowsPB _ _ _ h6 hb
        replace cr_0 := cellK cr_0 hb
        replace cr_1 := cellK cr_1 hb
        replace cr_2 := cellK cr_2 hb
        replace cr_3 := cellK cr_3 hb
        replace cr_4 := cellK cr_4 hb
        replace cr_5 := cellK cr_5 hb
        replace cf_0 := cellK cf_0 hb
        replace cf_1 := cellK cf_1 hb
        replace cf_2 := cellK cf_2 hb
        clear hb
        try go_wp2_with fail
        refine hK.out _ _ ⟨cr_0, cr_1, cr_2, cr_3, cr_4, cr_5, cf_0, cf_1, cf_2⟩ (fun hH => ?_)
        clear hK K
        try simp only [Act.put, List.setIfInBounds_toArray, List.set_cons_zero, List.set_cons_succ]
        refine U_two (i := 5) (j := 7) (by kernel_rfl) rfl rfl (fun K hK => ?_) (fun K hK => ?_)
        · clear hH
          go_simp
          (with_reducible refine (pMul h11 h9 (SzQ.fit (SzQ.sub shi slo)) (SzQ.fit sf)).mono ?_)
          rintro e w13 ⟨_, rfl, h12, hb⟩
          obtain ⟨sh12, ah12, nh12, ch12, Ah12, Nh12, Ch12, rfl⟩ := h12.shape
          replace hs := bStep hs hb
          replace Bldepth := Bldepth.mono hb
          replace Blr := Blr.mono hb
          replace Blk := Blk.mono hb
          replace Blf := Blf.mono hb
          replace h7a := h7a.mono hb
          replace h7b := h7b.mono hb
          replace h8a := h8a.mono hb
          replace h8b := h8b.mono hb
          replace h9 := h9.mono hb
          replace h10 := h10.mono hb
          replace h11 := h11.mono hb
          replace h6 := rowsPB _ _ _ h6 hb
          replace cr_0 := cellK cr_0 hb
          replace cr_1 := cellK cr_1 hb
          replace cr_2 := cellK cr_2 hb
          replace cr_3 := cellK cr_3 hb
          replace cr_4 := cellK cr_4 hb
          replace cr_5 := cellK cr_5 hb
          replace cf_0 := cellK cf_0 hb
          replace cf_1 := cellK cf_1 hb
          replace cf_2 := cellK cf_2 hb
          clear hb
          try go_wp2_with fail
          refine hK.out _ _ ⟨cr_0, cr_1, cr_2, cr_3, cr_4, cr_5, cf_0, cf_1, cf_2⟩ (fun hH => ?_)
          clear hK K
          try simp only [Act.put, List.setIfInBounds_toArray, List.set_cons_zero, List.set_cons_succ]
          refine U_two (i := 6) (j := 7) (by kernel_rfl) rfl rfl (fun K hK => ?_) (fun K hK => ?_)
          · clear hH
            go_simp
            (with_reducible refine (pAdd h10 h12 (SzQ.fit slo) (SzQ.fit (SzQ.mul (SzQ.sub shi slo) sf))).mono ?_)
            rintro e w14 ⟨_, rfl, h13, hb⟩
            obtain ⟨sh13, ah13, nh13, ch13, Ah13, Nh13, Ch13, rfl⟩ := h13.shape
            replace hs := bStep hs hb
            replace Bldepth := Bldepth.mono hb
            replace Blr := Blr.mono hb
            replace Blk := Blk.mono hb
            replace Blf := Blf.mono hb
            replace h7a := h7a.mono hb
            replace h7b := h7b.mono hb
            replace h8a := h8a.mono hb
            replace h8b := h8b.mono hb
            replace h9 := h9.mono hb
            replace h10 := h10.mono hb
            replace h11 := h11.mono hb
            replace h12 := h12.mono hb
            replace h6 := rowsPB _ _ _ h6 hb
            replace cr_0 := cellK cr_0 hb
            replace cr_1 := cellK cr_1 hb
            replace cr_2 := cellK cr_2 hb
            replace cr_3 := cellK cr_3 hb
            replace cr_4 := cellK cr_4 hb
            replace cr_5 := cellK cr_5 hb
            replace cf_0 := cellK cf_0 hb
            replace cf_1 := cellK cf_1 hb
            replace cf_2 := cellK cf_2 hb
            clear hb
            try go_wp2_with fail
            refine hK.out _ _ ⟨cr_0, cr_1, cr_2, cr_3, cr_4, cr_5, cf_0, cf_1, cf_2⟩ (fun hH => ?_)
            clear hK K
            try simp only [Act.put, List.setIfInBounds_toArray, List.set_cons_zero, List.set_cons_succ]
            clear hH
            refine U_one (i := 7) (by kernel_rfl) rfl (fun K hK => ?_)
            go_simp
            generalize hWn : (w14.alloc (.cells #[.bool false, .slice none 0 0, .slice none 0 0] 40)) = w15
            have hb : Below w14.heap.size w14 w15 := by rw [← hWn]; exact (Below.refl _ _).alloc (Nat.le_refl _) _
            have Blx : Bx w15 (w14.heap.size) 40 #[.bool false, .slice none 0 0, .slice none 0 0] := by rw [← hWn]; exact Bx.new _ _ _
            have ndepth_x : w.heap.size ≠ w14.heap.size := by have := Bldepth.lt; omega
            have nr_x : w5.heap.size ≠ w14.heap.size := by have := Blr.lt; omega
            have nk_x : w5.heap.size + 1 ≠ w14.heap.size := by have := Blk.lt; omega
            have nf_x : w8.heap.size ≠ w14.heap.size := by have := Blf.lt; omega
            have nh6_x : bh6 < w14.heap.size := h6.lt (by omega)
            have sz_x : w.heap.size ≤ w14.heap.size := hs.size
            replace hs := bStep hs hb
            replace Bldepth := Bldepth.mono hb
            replace Blr := Blr.mono hb
            replace Blk := Blk.mono hb
            replace Blf := Blf.mono hb
            replace h7a := h7a.mono hb
            replace h7b := h7b.mono hb
            replace h8a := h8a.mono hb
            replace h8b := h8b.mono hb
            replace h9 := h9.mono hb
            replace h10 := h10.mono hb
            replace h11 := h11.mono hb
            replace h12 := h12.mono hb
            replace h13 := h13.mono hb
            replace h6 := rowsPB _ _ _ h6 hb
            replace cr_0 := cellK cr_0 hb
            replace cr_1 := cellK cr_1 hb
            replace cr_2 := cellK cr_2 hb
            replace cr_3 := cellK cr_3 hb
            replace cr_4 := cellK cr_4 hb
            replace cr_5 := cellK cr_5 hb
            replace cf_0 := cellK cf_0 hb
            replace cf_1 := cellK cf_1 hb
            replace cf_2 := cellK cf_2 hb
            clear hb hWn
            refine hK.out _ _ ⟨cr_0, cr_1, cr_2, cr_3, cr_4, cr_5, cf_0, cf_1, cf_2⟩ (fun hH => ?_)
            clear hK K
            try simp only [Act.put, List.setIfInBounds_toArray, List.set_cons_zero, List.set_cons_succ]
            clear hH
            have cx_0 : w15.cell? ⟨w14.heap.size, 0, none⟩ = some (.bool false) := Blx.at 0 rfl
            have cx_1 : w15.cell? ⟨w14.heap.size, 1, none⟩ = some (.slice none 0 0) := Blx.at 1 rfl
            have cx_2 : w15.cell? ⟨w14.heap.size, 2, none⟩ = some (.slice none 0 0) := Blx.at 2 rfl
            have fx := Blx.free
            have Lx : w14.heap.size < w15.heap.size := Blx.lt
            refine U_last (by kernel_rfl) rfl (by kernel_rfl) (fun K hK => ?_)
            go_simp
            refine hK.out _ _ ?_
            clear hK K
            intro w16 hW
            have hG : Gr [w14.heap.size] w15 w16 := by rw [hW]; exact (Gr.refl _ _).set.set.set
            have hsz := hs.size
            have lx := Blx.lt
            have hbw : Below w.heap.size w15 w16 := hG.below1 hs.size (by first | omega | assumption)
            have hk : KeepD w15 w16 := hG.keep ⟨⟨_, Blx.ty, by decide⟩, True.intro⟩
            have Bl1x : Bx w16 (w14.heap.size) 40 #[.bool sh13, .slice ah13 nh13 ch13, .slice Ah13 Nh13 Ch13] := by rw [hW]; exact Blx.set3
            replace hs := hs.trans hbw
            replace h6 := h6.gr PC.kept hG (notMem1 (by omega)) hk
            replace Bldepth := hG.bx Bldepth (notMem1 (by omega))
            replace Blr := hG.bx Blr (notMem1 (by omega))
            replace Blk := hG.bx Blk (notMem1 (by omega))
            replace Blf := hG.bx Blf (notMem1 (by omega))
            replace Blx := Bl1x
            clear Bl1x
            replace h7a := h7a.keep hk
            replace h7b := h7b.keep hk
            replace h8a := h8a.keep hk
            replace h8b := h8b.keep hk
            replace h9 := h9.keep hk
            replace h10 := h10.keep hk
            replace h11 := h11.keep hk
            replace h12 := h12.keep hk
            replace h13 := h13.keep hk
            clear hW hG hk hbw hsz lx
            try simp only [Act.put, List.setIfInBounds_toArray, List.set_cons_zero, List.set_cons_succ]
            clear cr_0 cr_1 cr_2 cr_3 cr_4 cr_5 cf_0 cf_1 cf_2
            go_wp2_with fail
            go_meet
            exact ⟨w14.heap.size, _, _, _, _, _, _, _, rfl, (by first | exact sz_x | omega), (by omega), (by omega), (by omega), (by omega), (by omega), Blx, hs, Bldepth, Blr, Blk, Blf, h7a, h7b, h8a, h8b, h9, h13, h6⟩
          · clear hH
            go_simp
            generalize hWn : (w13.alloc (.cells #[.bool false, .slice none 0 0, .slice none 0 0] 40)) = w14
            have hb : Below w13.heap.size w13 w14 := by rw [← hWn]; exact (Below.refl _ _).alloc (Nat.le_refl _) _
            have Blx : Bx w14 (w13.heap.size) 40 #[.bool false, .slice none 0 0, .slice none 0 0] := by rw [← hWn]; exact Bx.new _ _ _
            have ndepth_x : w.heap.size ≠ w13.heap.size := by have := Bldepth.lt; omega
            have nr_x : w5.heap.size ≠ w13.heap.size := by have := Blr.lt; omega
            have nk_x : w5.heap.size + 1 ≠ w13.heap.size := by have := Blk.lt; omega
            have nf_x : w8.heap.size ≠ w13.heap.size := by have := Blf.lt; omega
            have nh6_x : bh6 < w13.heap.size := h6.lt (by omega)
            have sz_x : w.heap.size ≤ w13.heap.size := hs.size
            replace hs := bStep hs hb
            replace Bldepth := Bldepth.mono hb
            replace Blr := Blr.mono hb
            replace Blk := Blk.mono hb
            replace Blf := Blf.mono hb
            replace h7a := h7a.mono hb
            replace h7b := h7b.mono hb
            replace h8a := h8a.mono hb
            replace h8b := h8b.mono hb
            replace h9 := h9.mono hb
            replace h10 := h10.mono hb
            replace h11 := h11.mono hb
            replace h12 := h12.mono hb
            replace h6 := rowsPB _ _ _ h6 hb
            replace cr_0 := cellK cr_0 hb
            replace cr_1 := cellK cr_1 hb
            replace cr_2 := cellK cr_2 hb
            replace cr_3 := cellK cr_3 hb
            replace cr_4 := cellK cr_4 hb
            replace cr_5 := cellK cr_5 hb
            replace cf_0 := cellK cf_0 hb
            replace cf_1 := cellK cf_1 hb
            replace cf_2 := cellK cf_2 hb
            clear hb hWn
            refine hK.out _ _ ⟨cr_0, cr_1, cr_2, cr_3, cr_4, cr_5, cf_0, cf_1, cf_2⟩ (fun hH => ?_)
            clear hK K
            try simp only [Act.put, List.setIfInBounds_toArray, List.set_cons_zero, List.set_cons_succ]
            clear hH
            refine U_one (i := 6) (by kernel_rfl) rfl (fun K hK => ?_)
            go_simp
            (with_reducible refine (pAdd h10 h12 (SzQ.fit slo) (SzQ.fit (SzQ.mul (SzQ.sub shi slo) sf))).mono ?_)
            rintro e w15 ⟨_, rfl, h13, hb⟩
            obtain ⟨sh13, ah13, nh13, ch13, Ah13, Nh13, Ch13, rfl⟩ := h13.shape
            replace hs := bStep hs hb
            replace Bldepth := Bldepth.mono hb
            replace Blr := Blr.mono hb
            replace Blk := Blk.mono hb
            replace Blf := Blf.mono hb
            replace Blx := Blx.mono hb
            replace h7a := h7a.mono hb
            replace h7b := h7b.mono hb
            replace h8a := h8a.mono hb
            replace h8b := h8b.mono hb
            replace h9 := h9.mono hb
            replace h10 := h10.mono hb
            replace h11 := h11.mono hb
            replace h12 := h12.mono hb
            replace h6 := rowsPB _ _ _ h6 hb
            replace cr_0 := cellK cr_0 hb
            replace cr_1 := cellK cr_1 hb
            replace cr_2 := cellK cr_2 hb
            replace cr_3 := cellK cr_3 hb
            replace cr_4 := cellK cr_4 hb
            replace cr_5 := cellK cr_5 hb
            replace cf_0 := cellK cf_0 hb
            replace cf_1 := cellK cf_1 hb
            replace cf_2 := cellK cf_2 hb
            clear hb
            try go_wp2_with fail
            refine hK.out _ _ ⟨cr_0, cr_1, cr_2, cr_3, cr_4, cr_5, cf_0, cf_1, cf_2⟩ (fun hH => ?_)
            clear hK K
            try simp only [Act.put, List.setIfInBounds_toArray, List.set_cons_zero, List.set_cons_succ]
            clear hH
            have cx_0 : w15.cell? ⟨w13.heap.size, 0, none⟩ = some (.bool false) := Blx.at 0 rfl
            have cx_1 : w15.cell? ⟨w13.heap.size, 1, none⟩ = some (.slice none 0 0) := Blx.at 1 rfl
            have cx_2 : w15.cell? ⟨w13.heap.size, 2, none⟩ = some (.slice none 0 0) := Blx.at 2 rfl
            have fx := Blx.free
            have Lx : w13.heap.size < w15.heap.size := Blx.lt
            refine U_last (by kernel_rfl) rfl (by kernel_rfl) (fun K hK => ?_)
            go_simp
            refine hK.out _ _ ?_
            clear hK K
            intro w16 hW
            have hG : Gr [w13.heap.size] w15 w16 := by rw [hW]; exact (Gr.refl _ _).set.set.set
            have hsz := hs.size
            have lx := Blx.lt
            have hbw : Below w.heap.size w15 w16 := hG.below1 hs.size (by first | omega | assumption)
            have hk : KeepD w15 w16 := hG.keep ⟨⟨_, Blx.ty, by decide⟩, True.intro⟩
            have Bl1x : Bx w16 (w13.heap.size) 40 #[.bool sh13, .slice ah13 nh13 ch13, .slice Ah13 Nh13 Ch13] := by rw [hW]; exact Blx.set3
            replace hs := hs.trans hbw
            replace h6 := h6.gr PC.kept hG (notMem1 (by omega)) hk
            replace Bldepth := hG.bx Bldepth (notMem1 (by omega))
            replace Blr := hG.bx Blr (notMem1 (by omega))
            replace Blk := hG.bx Blk (notMem1 (by omega))
            replace Blf := hG.bx Blf (notMem1 (by omega))
            replace Blx := Bl1x
            clear Bl1x
            replace h7a := h7a.keep hk
            replace h7b := h7b.keep hk
            replace h8a := h8a.keep hk
            replace h8b := h8b.keep hk
            replace h9 := h9.keep hk
            replace h10 := h10.keep hk
            replace h11 := h11.keep hk
            replace h12 := h12.keep hk
            replace h13 := h13.keep hk
            clear hW hG hk hbw hsz lx
            try simp only [Act.put, List.setIfInBounds_toArray, List.set_cons_zero, List.set_cons_succ]
            clear cr_0 cr_1 cr_2 cr_3 cr_4 cr_5 cf_0 cf_1 cf_2
            go_wp2_with fail
            go_meet
            exact ⟨w13.heap.size, _, _, _, _, _, _, _, rfl, (by first | exact sz_x | omega), (by omega), (by omega), (by omega), (by omega), (by omega), Blx, hs, Bldepth, Blr, Blk, Blf, h7a, h7b, h8a, h8b, h9, h13, h6⟩
        · clear hH
          go_simp
          generalize hWn : (w12.alloc (.cells #[.bool false, .slice none 0 0, .slice none 0 0] 40)) = w13
          have hb : Below w12.heap.size w12 w13 := by rw [← hWn]; exact (Below.refl _ _).alloc (Nat.le_refl _) _
          have Blx : Bx w13 (w12.heap.size) 40 #[.bool false, .slice none 0 0, .slice none 0 0] := by rw [← hWn]; exact Bx.new _ _ _
          have ndepth_x : w.heap.size ≠ w12.heap.size := by have := Bldepth.lt; omega
          have nr_x : w5.heap.size ≠ w12.heap.size := by have := Blr.lt; omega
          have nk_x : w5.heap.size + 1 ≠ w12.heap.size := by have := Blk.lt; omega
          have nf_x : w8.heap.size ≠ w12.heap.size := by have := Blf.lt; omega
          have nh6_x : bh6 < w12.heap.size := h6.lt (by omega)
          have sz_x : w.heap.size ≤ w12.heap.size := hs.size
          replace hs := bStep hs hb
          replace Bldepth := Bldepth.mono hb
          replace Blr := Blr.mono hb
          replace Blk := Blk.mono hb
          replace Blf := Blf.mono hb
          replace h7a := h7a.mono hb
          replace h7b := h7b.mono hb
          replace h8a := h8a.mono hb
          replace h8b := h8b.mono hb
          replace h9 := h9.mono hb
          replace h10 := h10.mono hb
          replace h11 := h11.mono hb
          replace h6 := rowsPB _ _ _ h6 hb
          replace cr_0 := cellK cr_0 hb
          replace cr_1 := cellK cr_1 hb
          replace cr_2 := cellK cr_2 hb
          replace cr_3 := cellK cr_3 hb
          replace cr_4 := cellK cr_4 hb
          replace cr_5 := cellK cr_5 hb
          replace cf_0 := cellK cf_0 hb
          replace cf_1 := cellK cf_1 hb
          replace cf_2 := cellK cf_2 hb
          clear hb hWn
          refine hK.out _ _ ⟨cr_0, cr_1, cr_2, cr_3, cr_4, cr_5, cf_0, cf_1, cf_2⟩ (fun hH => ?_)
          clear hK K
          try simp only [Act.put, List.setIfInBounds_toArray, List.set_cons_zero, List.set_cons_succ]
          clear hH
          refine U_one (i := 5) (by kernel_rfl) rfl (fun K hK => ?_)
          go_simp
          (with_reducible refine (pMul h11 h9 (SzQ.fit (SzQ.sub shi slo)) (SzQ.fit sf)).mono ?_)
          rintro e w14 ⟨_, rfl, h12, hb⟩
          obtain ⟨sh12, ah12, nh12, ch12, Ah12, Nh12, Ch12, rfl⟩ := h12.shape
          replace hs := bStep hs hb
          replace Bldepth := Bldepth.mono hb
          replace Blr := Blr.mono hb
          replace Blk := Blk.mono hb
          replace Blf := Blf.mono hb
          replace Blx := Blx.mono hb
          replace h7a := h7a.mono hb
          replace h7b := h7b.mono hb
          replace h8a := h8a.mono hb
          replace h8b := h8b.mono hb
          replace h9 := h9.mono hb
          replace h10 := h10.mono hb
          replace h11 := h11.mono hb
          replace h6 := rowsPB _ _ _ h6 hb
          replace cr_0 := cellK cr_0 hb
          replace cr_1 := cellK cr_1 hb
          replace cr_2 := cellK cr_2 hb
          replace cr_3 := cellK cr_3 hb
          replace cr_4 := cellK cr_4 hb
          replace cr_5 := cellK cr_5 hb
          replace cf_0 := cellK cf_0 hb
          replace cf_1 := cellK cf_1 hb
          replace cf_2 := cellK cf_2 hb
          clear hb
          try go_wp2_with fail
          refine hK.out _ _ ⟨cr_0, cr_1, cr_2, cr_3, cr_4, cr_5, cf_0, cf_1, cf_2⟩ (fun hH => ?_)
          clear hK K
          try simp only [Act.put, List.setIfInBounds_toArray, List.set_cons_zero, List.set_cons_succ]
          clear hH
          refine U_one (i := 6) (by kernel_rfl) rfl (fun K hK => ?_)
          go_simp
          (with_reducible refine (pAdd h10 h12 (SzQ.fit slo) (SzQ.fit (SzQ.mul (SzQ.sub shi slo) sf))).mono ?_)
          rintro e w15 ⟨_, rfl, h13, hb⟩
          obtain ⟨sh13, ah13, nh13, ch13, Ah13, Nh13, Ch13, rfl⟩ := h13.shape
          replace hs := bStep hs hb
          replace Bldepth := Bldepth.mono hb
          replace Blr := Blr.mono hb
          replace Blk := Blk.mono hb
          replace Blf := Blf.mono hb
          replace Blx := Blx.mono hb
          replace h7a := h7a.mono hb
          replace h7b := h7b.mono hb
          replace h8a := h8a.mono hb
          replace h8b := h8b.mono hb
          replace h9 := h9.mono hb
          replace h10 := h10.mono hb
          replace h11 := h11.mono hb
          replace h12 := h12.mono hb
          replace h6 := rowsPB _ _ _ h6 hb
          replace cr_0 := cellK cr_0 hb
          replace cr_1 := cellK cr_1 hb
          replace cr_2 := cellK cr_2 hb
          replace cr_3 := cellK cr_3 hb
          replace cr_4 := cellK cr_4 hb
          replace cr_5 := cellK cr_5 hb
          replace cf_0 := cellK cf_0 hb
          replace cf_1 := cellK cf_1 hb
          replace cf_2 := cellK cf_2 hb
          clear hb
          try go_wp2_with fail
          refine hK.out _ _ ⟨cr_0, cr_1, cr_2, cr_3, cr_4, cr_5, cf_0, cf_1, cf_2⟩ (fun hH => ?_)
          clear hK K
          try simp only [Act.put, List.setIfInBounds_toArray, List.set_cons_zero, List.set_cons_succ]
          clear hH
          have cx_0 : w15.cell? ⟨w12.heap.size, 0, none⟩ = some (.bool false) := Blx.at 0 rfl
          have cx_1 : w15.cell? ⟨w12.heap.size, 1, none⟩ = some (.slice none 0 0) := Blx.at 1 rfl
          have cx_2 : w15.cell? ⟨w12.heap.size, 2, none⟩ = some (.slice none 0 0) := Blx.at 2 rfl
          have fx := Blx.free
          have Lx : w12.heap.size < w15.heap.size := Blx.lt
          refine U_last (by kernel_rfl) rfl (by kernel_rfl) (fun K hK => ?_)
          go_simp
          refine hK.out _ _ ?_
          clear hK K
          intro w16 hW
          have hG : Gr [w12.heap.size] w15 w16 := by rw [hW]; exact (Gr.refl _ _).set.set.set
          have hsz := hs.size
          have lx := Blx.lt
          have hbw : Below w.heap.size w15 w16 := hG.below1 hs.size (by first | omega | assumption)
          have hk : KeepD w15 w16 := hG.keep ⟨⟨_, Blx.ty, by decide⟩, True.intro⟩
          have Bl1x : Bx w16 (w12.heap.size) 40 #[.bool sh13, .slice ah13 nh13 ch13, .slice Ah13 Nh13 Ch13] := by rw [hW]; exact Blx.set3
          replace hs := hs.trans hbw
          replace h6 := h6.gr PC.kept hG (notMem1 (by omega)) hk
          replace Bldepth := hG.bx Bldepth (notMem1 (by omega))
          replace Blr := hG.bx Blr (notMem1 (by omega))
          replace Blk := hG.bx Blk (notMem1 (by omega))
          replace Blf := hG.bx Blf (notMem1 (by omega))
          replace Blx := Bl1x
          clear Bl1x
          replace h7a := h7a.keep hk
          replace h7b := h7b.keep hk
          replace h8a := h8a.keep hk
          replace h8b := h8b.keep hk
          replace h9 := h9.keep hk
          replace h10 := h10.keep hk
          replace h11 := h11.keep hk
          replace h12 := h12.keep hk
          replace h13 := h13.keep hk
          clear hW hG hk hbw hsz lx
          try simp only [Act.put, List.setIfInBounds_toArray, List.set_cons_zero, List.set_cons_succ]
          clear cr_0 cr_1 cr_2 cr_3 cr_4 cr_5 cf_0 cf_1 cf_2
          go_wp2_with fail
          go_meet
          exact ⟨w12.heap.size, _, _, _, _, _, _, _, rfl, (by first | exact sz_x | omega), (by omega), (by omega), (by omega), (by omega), (by omega), Blx, hs, Bldepth, Blr, Blk, Blf, h7a, h7b, h8a, h8b, h9, h13, h6⟩
      · clear hH
        go_simp
        generalize hWn : (w11.alloc (.cells #[.bool false, .slice none 0 0, .slice none 0 0] 40)) = w12
        have hb : Below w11.heap.size w11 w12 := by rw [← hWn]; exact (Below.refl _ _).alloc (Nat.le_refl _) _
        have Blx : Bx w12 (w11.heap.size) 40 #[.bool false, .slice none 0 0, .slice none 0 0] := by rw [← hWn]; exact Bx.new _ _ _
        have ndepth_x : w.heap.size ≠ w11.heap.size := by have := Bldepth.lt; omega
        have nr_x : w5.heap.size ≠ w11.heap.size := by have := Blr.lt; omega
        have nk_x : w5.heap.size + 1 ≠ w11.heap.size := by have := Blk.lt; omega
        have nf_x : w8.heap.size ≠ w11.heap.size := by have := Blf.lt; omega
        have nh6_x : bh6 < w11.heap.size := h6.lt (by omega)
        have sz_x : w.heap.size ≤ w11.heap.size := hs.size
        replace hs := bStep hs hb
        replace Bldepth := Bldepth.mono hb
        replace Blr := Blr.mono hb
        replace Blk := Blk.mono hb
        replace Blf := Blf.mono hb
        replace h7a := h7a.mono hb
        replace h7b := h7b.mono hb
        replace h8a := h8a.mono hb
        replace h8b := h8b.mono hb
        replace h9 := h9.mono hb
        replace h10 := h10.mono hb
        replace h6 := rowsPB _ _ _ h6 hb
        replace cr_0 := cellK cr_0 hb
        replace cr_1 := cellK cr_1 hb
        replace cr_2 := cellK cr_2 hb
        replace cr_3 := cellK cr_3 hb
        replace cr_4 := cellK cr_4 hb
        replace cr_5 := cellK cr_5 hb
        replace cf_0 := cellK cf_0 hb
        replace cf_1 := cellK cf_1 hb
        replace cf_2 := cellK cf_2 hb
        clear hb hWn
        refine hK.out _ _ ⟨cr_0, cr_1, cr_2, cr_3, cr_4, cr_5, cf_0, cf_1, cf_2⟩ (fun hH => ?_)
        clear hK K
        try simp only [Act.put, List.setIfInBounds_toArray, List.set_cons_zero, List.set_cons_succ]
        clear hH
        refine U_one (i := 3) (by kernel_rfl) rfl (fun K hK => ?_)
        go_simp
        (with_reducible refine (p_Width _ _ _ _ (PV2.mk h7a h7b) (SzQ.mid slo) (SzQ.mid shi)).mono ?_)
        rintro e w13 ⟨_, rfl, h11, hb⟩
        obtain ⟨sh11, ah11, nh11, ch11, Ah11, Nh11, Ch11, rfl⟩ := h11.shape
        replace hs := bStep hs hb
        replace Bldepth := Bldepth.mono hb
        replace Blr := Blr.mono hb
        replace Blk := Blk.mono hb
        replace Blf := Blf.mono hb
        replace Blx := Blx.mono hb
        replace h7a := h7a.mono hb
        replace h7b := h7b.mono hb
        replace h8a := h8a.mono hb
        replace h8b := h8b.mono hb
        replace h9 := h9.mono hb
        replace h10 := h10.mono hb
        replace h6 := rowsPB _ _ _ h6 hb
        replace cr_0 := cellK cr_0 hb
        replace cr_1 := cellK cr_1 hb
        replace cr_2 := cellK cr_2 hb
        replace cr_3 := cellK cr_3 hb
        replace cr_4 := cellK cr_4 hb
        replace cr_5 := cellK cr_5 hb
        replace cf_0 := cellK cf_0 hb
        replace cf_1 := cellK cf_1 hb
        replace cf_2 := cellK cf_2 hb
        clear hb
        try go_wp2_with fail
        refine hK.out _ _ ⟨cr_0, cr_1, cr_2, cr_3, cr_4, cr_5, cf_0, cf_1, cf_2⟩ (fun hH => ?_)
        clear hK K
        try simp only [Act.put, List.setIfInBounds_toArray, List.set_cons_zero, List.set_cons_succ]
        clear hH
        refine U_one (i := 5) (by kernel_rfl) rfl (fun K hK => ?_)
        go_simp
        (with_reducible refine (pMul h11 h9 (SzQ.fit (SzQ.sub shi slo)) (SzQ.fit sf)).mono ?_)
        rintro e w14 ⟨_, rfl, h12, hb⟩
        obtain ⟨sh12, ah12, nh12, ch12, Ah12, Nh12, Ch12, rfl⟩ := h12.shape
        replace hs := bStep hs hb
        replace Bldepth := Bldepth.mono hb
        replace Blr := Blr.mono hb
        replace Blk := Blk.mono hb
        replace Blf := Blf.mono hb
        replace Blx := Blx.mono hb
        replace h7a := h7a.mono hb
        replace h7b := h7b.mono hb
        replace h8a := h8a.mono hb
        replace h8b := h8b.mono hb
        replace h9 := h9.mono hb
        replace h10 := h10.mono hb
        replace h11 := h11.mono hb
        replace h6 := rowsPB _ _ _ h6 hb
        replace cr_0 := cellK cr_0 hb
        replace cr_1 := cellK cr_1 hb
        replace cr_2 := cellK cr_2 hb
        replace cr_3 := cellK cr_3 hb
        replace cr_4 := cellK cr_4 hb
        replace cr_5 := cellK cr_5 hb
        replace cf_0 := cellK cf_0 hb
        replace cf_1 := cellK cf_1 hb
        replace cf_2 := cellK cf_2 hb
        clear hb
        try go_wp2_with fail
        refine hK.out _ _ ⟨cr_0, cr_1, cr_2, cr_3, cr_4, cr_5, cf_0, cf_1, cf_2⟩ (fun hH => ?_)
        clear hK K
        try simp only [Act.put, List.setIfInBounds_toArray, List.set_cons_zero, List.set_cons_succ]
        clear hH
        refine U_one (i := 6) (by kernel_rfl) rfl (fun K hK => ?_)
        go_simp
        (with_reducible refine (pAdd h10 h12 (SzQ.fit slo) (SzQ.fit (SzQ.mul (SzQ.sub shi slo) sf))).mono ?_)
        rintro e w15 ⟨_, rfl, h13, hb⟩
        obtain ⟨sh13, ah13, nh13, ch13, Ah13, Nh13, Ch13, rfl⟩ := h13.shape
        replace hs := bStep hs hb
        replace Bldepth := Bldepth.mono hb
        replace Blr := Blr.mono hb
        replace Blk := Blk.mono hb
        replace Blf := Blf.mono hb
        replace Blx := Blx.mono hb
        replace h7a := h7a.mono hb
        replace h7b := h7b.mono hb
        replace h8a := h8a.mono hb
        replace h8b := h8b.mono hb
        replace h9 := h9.mono hb
        replace h10 := h10.mono hb
        replace h11 := h11.mono hb
        replace h12 := h12.mono hb
        replace h6 := rowsPB _ _ _ h6 hb
        replace cr_0 := cellK cr_0 hb
        replace cr_1 := cellK cr_1 hb
        replace cr_2 := cellK cr_2 hb
        replace cr_3 := cellK cr_3 hb
        replace cr_4 := cellK cr_4 hb
        replace cr_5 := cellK cr_5 hb
        replace cf_0 := cellK cf_0 hb
        replace cf_1 := cellK cf_1 hb
        replace cf_2 := cellK cf_2 hb
        clear hb
        try go_wp2_with fail
        refine hK.out _ _ ⟨cr_0, cr_1, cr_2, cr_3, cr_4, cr_5, cf_0, cf_1, cf_2⟩ (fun hH => ?_)
        clear hK K
        try simp only [Act.put, List.setIfInBounds_toArray, List.set_cons_zero, List.set_cons_succ]
        clear hH
        have cx_0 : w15.cell? ⟨w11.heap.size, 0, none⟩ = some (.bool false) := Blx.at 0 rfl
        have cx_1 : w15.cell? ⟨w11.heap.size, 1, none⟩ = some (.slice none 0 0) := Blx.at 1 rfl
        have cx_2 : w15.cell? ⟨w11.heap.size, 2, none⟩ = some (.slice none 0 0) := Blx.at 2 rfl
        have fx := Blx.free
        have Lx : w11.heap.size < w15.heap.size := Blx.lt
        refine U_last (by kernel_rfl) rfl (by kernel_rfl) (fun K hK => ?_)
        go_simp
        refine hK.out _ _ ?_
        clear hK K
        intro w16 hW
        have hG : Gr [w11.heap.size] w15 w16 := by rw [hW]; exact (Gr.refl _ _).set.set.set
        have hsz := hs.size
        have lx := Blx.lt
        have hbw : Below w.heap.size w15 w16 := hG.below1 hs.size (by first | omega | assumption)
        have hk : KeepD w15 w16 := hG.keep ⟨⟨_, Blx.ty, by decide⟩, True.intro⟩
        have Bl1x : Bx w16 (w11.heap.size) 40 #[.bool sh13, .slice ah13 nh13 ch13, .slice Ah13 Nh13 Ch13] := by rw [hW]; exact Blx.set3
        replace hs := hs.trans hbw
        replace h6 := h6.gr PC.kept hG (notMem1 (by omega)) hk
        replace Bldepth := hG.bx Bldepth (notMem1 (by omega))
        replace Blr := hG.bx Blr (notMem1 (by omega))
        replace Blk := hG.bx Blk (notMem1 (by omega))
        replace Blf := hG.bx Blf (notMem1 (by omega))
        replace Blx := Bl1x
        clear Bl1x
        replace h7a := h7a.keep hk
        replace h7b := h7b.keep hk
        replace h8a := h8a.keep hk
        replace h8b := h8b.keep hk
        replace h9 := h9.keep hk
        replace h10 := h10.keep hk
        replace h11 := h11.keep hk
        replace h12 := h12.keep hk
        replace h13 := h13.keep hk
        clear hW hG hk hbw hsz lx
        try simp only [Act.put, List.setIfInBounds_toArray, List.set_cons_zero, List.set_cons_succ]
        clear cr_0 cr_1 cr_2 cr_3 cr_4 cr_5 cf_0 cf_1 cf_2
        go_wp2_with fail
        go_meet
        exact ⟨w11.heap.size, _, _, _, _, _, _, _, rfl, (by first | exact sz_x | omega), (by omega), (by omega), (by omega), (by omega), (by omega), Blx, hs, Bldepth, Blr, Blk, Blf, h7a, h7b, h8a, h8b, h9, h13, h6⟩
    · clear hH
      go_simp
      generalize hWn : (w10.alloc (.cells #[.bool false, .slice none 0 0, .slice none 0 0] 40)) = w11
      have hb : Below w10.heap.size w10 w11 := by rw [← hWn]; exact (Below.refl _ _).alloc (Nat.le_refl _) _
      have Blx : Bx w11 (w10.heap.size) 40 #[.bool false, .slice none 0 0, .slice none 0 0] := by rw [← hWn]; exact Bx.new _ _ _
      have ndepth_x : w.heap.size ≠ w10.heap.size := by have := Bldepth.lt; omega
      have nr_x : w5.heap.size ≠ w10.heap.size := by have := Blr.lt; omega
      have nk_x : w5.heap.size + 1 ≠ w10.heap.size := by have := Blk.lt; omega
      have nf_x : w8.heap.size ≠ w10.heap.size := by have := Blf.lt; omega
      have nh6_x : bh6 < w10.heap.size := h6.lt (by omega)
      have sz_x : w.heap.size ≤ w10.heap.size := hs.size
      replace hs := bStep hs hb
      replace Bldepth := Bldepth.mono hb
      replace Blr := Blr.mono hb
      replace Blk := Blk.mono hb
      replace Blf := Blf.mono hb
      replace h7a := h7a.mono hb
      replace h7b := h7b.mono hb
      replace h8a := h8a.mono hb
      replace h8b := h8b.mono hb
      replace h9 := h9.mono hb
      replace h6 := rowsPB _ _ _ h6 hb
      replace cr_0 := cellK cr_0 hb
      replace cr_1 := cellK cr_1 hb
      replace cr_2 := cellK cr_2 hb
      replace cr_3 := cellK cr_3 hb
      replace cr_4 := cellK cr_4 hb
      replace cr_5 := cellK cr_5 hb
      replace cf_0 := cellK cf_0 hb
      replace cf_1 := cellK cf_1 hb
      replace cf_2 := cellK cf_2 hb
      clear hb hWn
      refine hK.out _ _ ⟨cr_0, cr_1, cr_2, cr_3, cr_4, cr_5, cf_0, cf_1, cf_2⟩ (fun hH => ?_)
      clear hK K
      try simp only [Act.put, List.setIfInBounds_toArray, List.set_cons_zero, List.set_cons_succ]
      clear hH
      refine U_one (i := 1) (by kernel_rfl) rfl (fun K hK => ?_)
      go_simp
      (with_reducible refine (p_Lo _ _ _ _ (PV2.mk h7a h7b)).mono ?_)
      rintro e w12 ⟨_, rfl, h10, hb⟩
      obtain ⟨sh10, ah10, nh10, ch10, Ah10, Nh10, Ch10, rfl⟩ := h10.shape
      replace hs := bStep hs hb
      replace Bldepth := Bldepth.mono hb
      replace Blr := Blr.mono hb
      replace Blk := Blk.mono hb
      replace Blf := Blf.mono hb
      replace Blx := Blx.mono hb
      replace h7a := h7a.mono hb
      replace h7b := h7b.mono hb
      replace h8a := h8a.mono hb
      replace h8b := h8b.mono hb
      replace h9 := h9.mono hb
      replace h6 := rowsPB _ _ _ h6 hb
      replace cr_0 := cellK cr_0 hb
      replace cr_1 := cellK cr_1 hb
      replace cr_2 := cellK cr_2 hb
      replace cr_3 := cellK cr_3 hb
      replace cr_4 := cellK cr_4 hb
      replace cr_5 := cellK cr_5 hb
      replace cf_0 := cellK cf_0 hb
      replace cf_1 := cellK cf_1 hb
      replace cf_2 := cellK cf_2 hb
      clear hb
      try go_wp2_with fail
      refine hK.out _ _ ⟨cr_0, cr_1, cr_2, cr_3, cr_4, cr_5, cf_0, cf_1, cf_2⟩ (fun hH => ?_)
      clear hK K
      try simp only [Act.put, List.setIfInBounds_toArray, List.set_cons_zero, List.set_cons_succ]
      clear hH
      refine U_one (i := 3) (by kernel_rfl) rfl (fun K hK => ?_)
      go_simp
      (with_reducible refine (p_Width _ _ _ _ (PV2.mk h7a h7b) (SzQ.mid slo) (SzQ.mid shi)).mono ?_)
      rintro e w13 ⟨_, rfl, h11, hb⟩
      obtain ⟨sh11, ah11, nh11, ch11, Ah11, Nh11, Ch11, rfl⟩ := h11.shape
      replace hs := bStep hs hb
      replace Bldepth := Bldepth.mono hb
      replace Blr := Blr.mono hb
      replace Blk := Blk.mono hb
      replace Blf := Blf.mono hb
      replace Blx := Blx.mono hb
      replace h7a := h7a.mono hb
      replace h7b := h7b.mono hb
      replace h8a := h8a.mono hb
      replace h8b := h8b.mono hb
      replace h9 := h9.mono hb
      replace h10 := h10.mono hb
      replace h6 := rowsPB _ _ _ h6 hb
      replace cr_0 := cellK cr_0 hb
      replace cr_1 := cellK cr_1 hb
      replace cr_2 := cellK cr_2 hb
      replace cr_3 := cellK cr_3 hb
      replace cr_4 := cellK cr_4 hb
      replace cr_5 := cellK cr_5 hb
      replace cf_0 := cellK cf_0 hb
      replace cf_1 := cellK cf_1 hb
      replace cf_2 := cellK cf_2 hb
      clear hb
      try go_wp2_with fail
      refine hK.out _ _ ⟨cr_0, cr_1, cr_2, cr_3, cr_4, cr_5, cf_0, cf_1, cf_2⟩ (fun hH => ?_)
      clear hK K
      try simp only [Act.put, List.setIfInBounds_toArray, List.set_cons_zero, List.set_cons_succ]
      clear hH
      refine U_one (i := 5) (by kernel_rfl) rfl (fun K hK => ?_)
      go_simp
      (with_reducible refine (pMul h11 h9 (SzQ.fit (SzQ.sub shi slo)) (SzQ.fit sf)).mono ?_)
      rintro e w14 ⟨_, rfl, h12, hb⟩
      obtain ⟨sh12, ah12, nh12, ch12, Ah12, Nh12, Ch12, rfl⟩ := h12.shape
      replace hs := bStep hs hb
      replace Bldepth := Bldepth.mono hb
      replace Blr := Blr.mono hb
      replace Blk := Blk.mono hb
      replace Blf := Blf.mono hb
      replace Blx := Blx.mono hb
      replace h7a := h7a.mono hb
      replace h7b := h7b.mono hb
      replace h8a := h8a.mono hb
      replace h8b := h8b.mono hb
      replace h9 := h9.mono hb
      replace h10 := h10.mono hb
      replace h11 := h11.mono hb
      replace h6 := rowsPB _ _ _ h6 hb
      replace cr_0 := cellK cr_0 hb
      replace cr_1 := cellK cr_1 hb
      replace cr_2 := cellK cr_2 hb
      replace cr_3 := cellK cr_3 hb
      replace cr_4 := cellK cr_4 hb
      replace cr_5 := cellK cr_5 hb
      replace cf_0 := cellK cf_0 hb
      replace cf_1 := cellK cf_1 hb
      replace cf_2 := cellK cf_2 hb
      clear hb
      try go_wp2_with fail
      refine hK.out _ _ ⟨cr_0, cr_1, cr_2, cr_3, cr_4, cr_5, cf_0, cf_1, cf_2⟩ (fun hH => ?_)
      clear hK K
      try simp only [Act.put, List.setIfInBounds_toArray, List.set_cons_zero, List.set_cons_succ]
      clear hH
      refine U_one (i := 6) (by kernel_rfl) rfl (fun K hK => ?_)
      go_simp
      (with_reducible refine (pAdd h10 h12 (SzQ.fit slo) (SzQ.fit (SzQ.mul (SzQ.sub shi slo) sf))).mono ?_)
      rintro e w15 ⟨_, rfl, h13, hb⟩
      obtain ⟨sh13, ah13, nh13, ch13, Ah13, Nh13, Ch13, rfl⟩ := h13.shape
      replace hs := bStep hs hb
      replace Bldepth := Bldepth.mono hb
      replace Blr := Blr.mono hb
      replace Blk := Blk.mono hb
      replace Blf := Blf.mono hb
      replace Blx := Blx.mono hb
      replace h7a := h7a.mono hb
      replace h7b := h7b.mono hb
      replace h8a := h8a.mono hb
      replace h8b := h8b.mono hb
      replace h9 := h9.mono hb
      replace h10 := h10.mono hb
      replace h11 := h11.mono hb
      replace h12 := h12.mono hb
      replace h6 := rowsPB _ _ _ h6 hb
      replace cr_0 := cellK cr_0 hb
      replace cr_1 := cellK cr_1 hb
      replace cr_2 := cellK cr_2 hb
      replace cr_3 := cellK cr_3 hb
      replace cr_4 := cellK cr_4 hb
      replace cr_5 := cellK cr_5 hb
      replace cf_0 := cellK cf_0 hb
      replace cf_1 := cellK cf_1 hb
      replace cf_2 := cellK cf_2 hb
      clear hb
      try go_wp2_with fail
      refine hK.out _ _ ⟨cr_0, cr_1, cr_2, cr_3, cr_4, cr_5, cf_0, cf_1, cf_2⟩ (fun hH => ?_)
      clear hK K
      try simp only [Act.put, List.setIfInBounds_toArray, List.set_cons_zero, List.set_cons_succ]
      clear hH
      have cx_0 : w15.cell? ⟨w10.heap.size, 0, none⟩ = some (.bool false) := Blx.at 0 rfl
      have cx_1 : w15.cell? ⟨w10.heap.size, 1, none⟩ = some (.slice none 0 0) := Blx.at 1 rfl
      have cx_2 : w15.cell? ⟨w10.heap.size, 2, none⟩ = some (.slice none 0 0) := Blx.at 2 rfl
      have fx := Blx.free
      have Lx : w10.heap.size < w15.heap.size := Blx.lt
      refine U_last (by kernel_rfl) rfl (by kernel_rfl) (fun K hK => ?_)
      go_simp
      refine hK.out _ _ ?_
      clear hK K
      intro w16 hW
      have hG : Gr [w10.heap.size] w15 w16 := by rw [hW]; exact (Gr.refl _ _).set.set.set
      have hsz := hs.size
      have lx := Blx.lt
      have hbw : Below w.heap.size w15 w16 := hG.below1 hs.size (by first | omega | assumption)
      have hk : KeepD w15 w16 := hG.keep ⟨⟨_, Blx.ty, by decide⟩, True.intro⟩
      have Bl1x : Bx w16 (w10.heap.size) 40 #[.bool sh13, .slice ah13 nh13 ch13, .slice Ah13 Nh13 Ch13] := by rw [hW]; exact Blx.set3
      replace hs := hs.trans hbw
      replace h6 := h6.gr PC.kept hG (notMem1 (by omega)) hk
      replace Bldepth := hG.bx Bldepth (notMem1 (by omega))
      replace Blr := hG.bx Blr (notMem1 (by omega))
      replace Blk := hG.bx Blk (notMem1 (by omega))
      replace Blf := hG.bx Blf (notMem1 (by omega))
      replace Blx := Bl1x
      clear Bl1x
      replace h7a := h7a.keep hk
      replace h7b := h7b.keep hk
      replace h8a := h8a.keep hk
      replace h8b := h8b.keep hk
      replace h9 := h9.keep hk
      replace h10 := h10.keep hk
      replace h11 := h11.keep hk
      replace h12 := h12.keep hk
      replace h13 := h13.keep hk
      clear hW hG hk hbw hsz lx
      try simp only [Act.put, List.setIfInBounds_toArray, List.set_cons_zero, List.set_cons_succ]
      clear cr_0 cr_1 cr_2 cr_3 cr_4 cr_5 cf_0 cf_1 cf_2
      go_wp2_with fail
      go_meet
      exact ⟨w10.heap.size, _, _, _, _, _, _, _, rfl, (by first | exact sz_x | omega), (by omega), (by omega), (by omega), (by omega), (by omega), Blx, hs, Bldepth, Blr, Blk, Blf, h7a, h7b, h8a, h8b, h9, h13, h6⟩
  case rest =>
    clear hs Bldepth Blr Blk Blf h7a h7b h8a h8b h9 h6
    obtain ⟨gx, sh13, ah13, nh13, ch13, Ah13, Nh13, Ch13, rfl, hg_x, ng_x_depth, ng_x_r, ng_x_k, ng_x_f, ngr_x_h6, Blx, hs, Bldepth, Blr, Blk, Blf, h7a, h7b, h8a, h8b, h9, h13, h6⟩ := hcut
    go_wp2
    refine Code.abs ?_
    intro w10 hW
    have hG : Gr [] wc w10 := by rw [hW]; exact (Gr.refl _ _).alloc
    have hbw : Below w.heap.size wc w10 := hG.below0 hs.size
    have hk : KeepD wc w10 := hG.keep True.intro
    have sz_w10 : w.heap.size ≤ wc.heap.size := hs.size
    have ndepth_w10 : w.heap.size < wc.heap.size := Bldepth.lt
    have nr_w10 : w5.heap.size < wc.heap.size := Blr.lt
    have nk_w10 : w5.heap.size + 1 < wc.heap.size := Blk.lt
    have nf_w10 : w8.heap.size < wc.heap.size := Blf.lt
    have nx_w10 : gx < wc.heap.size := Blx.lt
    have nh6_w10 : bh6 < wc.heap.size := h6.lt (by omega)
    have Bltop : Bx w10 (wc.heap.size) 40 #[.bool false, .slice none 0 0, .slice none 0 0] := by rw [hW]; exact (Bx.new0 _ _ _)
    replace hs := hs.trans hbw
    replace h6 := rowsPB _ _ _ h6 (hG.below0 (Nat.le_refl _))
    replace Bldepth := hG.bx Bldepth notMem0
    replace Blr := hG.bx Blr notMem0
    replace Blk := hG.bx Blk notMem0
    replace Blf := hG.bx Blf notMem0
    replace Blx := hG.bx Blx notMem0
    replace h7a := h7a.keep hk
    replace h7b := h7b.keep hk
    replace h8a := h8a.keep hk
    replace h8b := h8b.keep hk
    replace h9 := h9.keep hk
    replace h13 := h13.keep hk
    clear hW hG hk hbw
    have hz_w10 : wc.heap.size < w10.heap.size := Bltop.lt
    go_loopw [74] (fun s74 wq => ∃ k : Nat, k ≤ L.length ∧ s74 = .int .i64 k ∧ Below w.heap.size w wq ∧ Bx wq (w.heap.size) 83 #[.int .i64 n1, .int .i64 d1, .int .i64 n2, .int .i64 d2] ∧ Bx wq (w5.heap.size) 86 #[.bool sh7a, .slice ah7a nh7a ch7a, .slice Ah7a Nh7a Ch7a, .bool sh7b, .slice ah7b nh7b ch7b, .slice Ah7b Nh7b Ch7b] ∧ Bx wq (w5.heap.size + 1) 88 #[.bool sh8a, .slice ah8a nh8a ch8a, .slice Ah8a Nh8a Ch8a, .bool sh8b, .slice ah8b nh8b ch8b, .slice Ah8b Nh8b Ch8b] ∧ Bx wq (w8.heap.size) 40 #[.bool sh9, .slice ah9 nh9 ch9, .slice Ah9 Nh9 Ch9] ∧ Bx wq (gx) 40 #[.bool sh13, .slice ah13 nh13 ch13, .slice Ah13 Nh13 Ch13] ∧ PV wq (.agg #[.bool sh7a, .slice ah7a nh7a ch7a, .slice Ah7a Nh7a Ch7a]) (lo) ∧ PV wq (.agg #[.bool sh7b, .slice ah7b nh7b ch7b, .slice Ah7b Nh7b Ch7b]) (hi) ∧ RV wq (.agg #[.bool sh8a, .slice ah8a nh8a ch8a, .slice Ah8a Nh8a Ch8a]) (lo) ∧ RV wq (.agg #[.bool sh8b, .slice ah8b nh8b ch8b, .slice Ah8b Nh8b Ch8b]) (hi) ∧ PV wq (.agg #[.bool sh9, .slice ah9 nh9 ch9, .slice Ah9 Nh9 Ch9]) (f) ∧ PV wq (.agg #[.bool sh13, .slice ah13 nh13 ch13, .slice Ah13 Nh13 Ch13]) (lo + ((hi - lo) * f)) ∧ Rows 3 40 PC wq (.slice (some ⟨bh6, oh6, none⟩) L.length kh6) L ∧ BoxP wq (wc.heap.size) (topQ L k)) (fun s74 _ => L.length - (intOf s74).toNat)
    case atStart => exact ⟨0, Nat.zero_le _, rfl, hs, Bldepth, Blr, Blk, Blf, Blx, h7a, h7b, h8a, h8b, h9, h13, h6, ⟨_, _, _, _, _, _, _, Bltop, (PV.zero _)⟩⟩
    case round =>
      clear Bldepth Blr Blk Blf Blx Bltop h7a h7b h8a h8b h9 h13 h6 hs
      obtain ⟨k, k_le, rfl, hs, Bldepth, Blr, Blk, Blf, Blx, h7a, h7b, h8a, h8b, h9, h13, h6, ⟨sh14, ah14, nh14, ch14, Ah14, Nh14, Ch14, Bltop, h14⟩⟩ := hrel
      by_cases q15 : k < L.length
      · have q15d : ((k : Int) < (L.length : Int)) = True := eq_true (by omega)
        obtain ⟨ge16, ae16, ne16, ce16, Ae16, Ne16, De16, Ee160, Ee161, Ee162, he16, le16⟩ := rowP_at h6 (show k < L.length by omega)
        have ctop_0 : wr.cell? ⟨wc.heap.size, 0, none⟩ = some (.bool sh14) := Bltop.at 0 rfl
        have ctop_1 : wr.cell? ⟨wc.heap.size, 1, none⟩ = some (.slice ah14 nh14 ch14) := Bltop.at 1 rfl
        have ctop_2 : wr.cell? ⟨wc.heap.size, 2, none⟩ = some (.slice Ah14 Nh14 Ch14) := Bltop.at 2 rfl
        have Ltop : wc.heap.size < wr.heap.size := Bltop.lt
        go_wp2_with fail
        clear ctop_0 ctop_1 ctop_2 Ltop le16 Ee160 Ee161 Ee162
        refine Calls.abs ?_
        intro w31 hW
        have hG : Gr [] wr w31 := by rw [hW]; exact (Gr.refl _ _).alloc
        have hbw : Below w.heap.size wr w31 := hG.below0 hs.size
        have hk : KeepD wr w31 := hG.keep True.intro
        have sz_w31 : w.heap.size ≤ wr.heap.size := hs.size
        have ndepth_w31 : w.heap.size < wr.heap.size := Bldepth.lt
        have nr_w31 : w5.heap.size < wr.heap.size := Blr.lt
        have nk_w31 : w5.heap.size + 1 < wr.heap.size := Blk.lt
        have nf_w31 : w8.heap.size < wr.heap.size := Blf.lt
        have nx_w31 : gx < wr.heap.size := Blx.lt
        have ntop_w31 : wc.heap.size < wr.heap.size := Bltop.lt
        have nh6_w31 : bh6 < wr.heap.size := h6.lt (by omega)
        have Bly : Bx w31 (wr.heap.size) 40 #[.bool ge16, .slice ae16 ne16 ce16, .slice Ae16 Ne16 De16] := by rw [hW]; exact (Bx.new0 _ _ _)
        replace hs := hs.trans hbw
        replace h6 := rowsPB _ _ _ h6 (hG.below0 (Nat.le_refl _))
        replace Bldepth := hG.bx Bldepth notMem0
        replace Blr := hG.bx Blr notMem0
        replace Blk := hG.bx Blk notMem0
        replace Blf := hG.bx Blf notMem0
        replace Blx := hG.bx Blx notMem0
        replace Bltop := hG.bx Bltop notMem0
        replace h7a := h7a.keep hk
        replace h7b := h7b.keep hk
        replace h8a := h8a.keep hk
        replace h8b := h8b.keep hk
        replace h9 := h9.keep hk
        replace h13 := h13.keep hk
        replace h14 := h14.keep hk
        replace he16 := he16.keep hk
        clear hW hG hk hbw
        have hz_w31 : wr.heap.size < w31.heap.size := Bly.lt
        with_reducible refine (pAdd h14 he16 (SzQ.fit (HTM.out k (by omega))) (SzQ.fit (HZ1.out k (by omega)))).mono ?_
        rintro e w32 ⟨_, rfl, h17, hb⟩
        obtain ⟨sh17, ah17, nh17, ch17, Ah17, Nh17, Ch17, rfl⟩ := h17.shape
        replace hs := bStep hs hb
        replace Bldepth := Bldepth.mono hb
        replace Blr := Blr.mono hb
        replace Blk := Blk.mono hb
        replace Blf := Blf.mono hb
        replace Blx := Blx.mono hb
        replace Bltop := Bltop.mono hb
        replace Bly := Bly.mono hb
        replace h7a := h7a.mono hb
        replace h7b := h7b.mono hb
        replace h8a := h8a.mono hb
        replace h8b := h8b.mono hb
        replace h9 := h9.mono hb
        replace h13 := h13.mono hb
        replace h14 := h14.mono hb
        replace he16 := he16.mono hb
        replace h6 := rowsPB _ _ _ h6 hb
        clear hb
        have ctop_0 : w32.cell? ⟨wc.heap.size, 0, none⟩ = some (.bool sh14) := Bltop.at 0 rfl
        have ctop_1 : w32.cell? ⟨wc.heap.size, 1, none⟩ = some (.slice ah14 nh14 ch14) := Bltop.at 1 rfl
        have ctop_2 : w32.cell? ⟨wc.heap.size, 2, none⟩ = some (.slice Ah14 Nh14 Ch14) := Bltop.at 2 rfl
        have Ltop : wc.heap.size < w32.heap.size := Bltop.lt
        have cx_0 : w32.cell? ⟨gx, 0, none⟩ = some (.bool sh13) := Blx.at 0 rfl
        have cx_1 : w32.cell? ⟨gx, 1, none⟩ = some (.slice ah13 nh13 ch13) := Blx.at 1 rfl
        have cx_2 : w32.cell? ⟨gx, 2, none⟩ = some (.slice Ah13 Nh13 Ch13) := Blx.at 2 rfl
        have Lx : gx < w32.heap.size := Blx.lt
        go_wp2_with fail
        clear ctop_0 ctop_1 ctop_2 cx_0 cx_1 cx_2 Ltop Lx
        refine Calls.abs ?_
        intro w33 hW
        have hG : Gr [] w32 w33 := by rw [hW]; exact (Gr.refl _ _).alloc
        have hbw : Below w.heap.size w32 w33 := hG.below0 hs.size
        have hk : KeepD w32 w33 := hG.keep True.intro
        have sz_w33 : w.heap.size ≤ w32.heap.size := hs.size
        have ndepth_w33 : w.heap.size < w32.heap.size := Bldepth.lt
        have nr_w33 : w5.heap.size < w32.heap.size := Blr.lt
        have nk_w33 : w5.heap.size + 1 < w32.heap.size := Blk.lt
        have nf_w33 : w8.heap.size < w32.heap.size := Blf.lt
        have nx_w33 : gx < w32.heap.size := Blx.lt
        have ntop_w33 : wc.heap.size < w32.heap.size := Bltop.lt
        have ny_w33 : wr.heap.size < w32.heap.size := Bly.lt
        have nh6_w33 : bh6 < w32.heap.size := h6.lt (by omega)
        have Blbottom : Bx w33 (w32.heap.size) 40 #[.bool sh17, .slice ah17 nh17 ch17, .slice Ah17 Nh17 Ch17] := by rw [hW]; exact (Bx.new0 _ _ _)
        replace hs := hs.trans hbw
        replace h6 := rowsPB _ _ _ h6 (hG.below0 (Nat.le_refl _))
        replace Bldepth := hG.bx Bldepth notMem0
        replace Blr := hG.bx Blr notMem0
        replace Blk := hG.bx Blk notMem0
        replace Blf := hG.bx Blf notMem0
        replace Blx := hG.bx Blx notMem0
        replace Bltop := hG.bx Bltop notMem0
        replace Bly := hG.bx Bly notMem0
        replace h7a := h7a.keep hk
        replace h7b := h7b.keep hk
        replace h8a := h8a.keep hk
        replace h8b := h8b.keep hk
        replace h9 := h9.keep hk
        replace h13 := h13.keep hk
        replace h14 := h14.keep hk
        replace he16 := he16.keep hk
        replace h17 := h17.keep hk
        clear hW hG hk hbw
        have hz_w33 : w32.heap.size < w33.heap.size := Blbottom.lt
        with_reducible refine (pCmp h14 h13 (SzQ.fit (HTM.out k (by omega))) (SzQ.fit (SzQ.add slo (SzQ.mul (SzQ.sub shi slo) sf)))).mono ?_
        rintro e w34 ⟨rfl, hb⟩
        replace hs := bStep hs hb
        replace Bldepth := Bldepth.mono hb
        replace Blr := Blr.mono hb
        replace Blk := Blk.mono hb
        replace Blf := Blf.mono hb
        replace Blx := Blx.mono hb
        replace Bltop := Bltop.mono hb
        replace Bly := Bly.mono hb
        replace Blbottom := Blbottom.mono hb
        replace h7a := h7a.mono hb
        replace h7b := h7b.mono hb
        replace h8a := h8a.mono hb
        replace h8b := h8b.mono hb
        replace h9 := h9.mono hb
        replace h13 := h13.mono hb
        replace h14 := h14.mono hb
        replace he16 := he16.mono hb
        replace h17 := h17.mono hb
        replace h6 := rowsPB _ _ _ h6 hb
        clear hb
        obtain ⟨sg18, Hsg18⟩ : ∃ s : Int, s = sgQ ((topQ L k) - (lo + ((hi - lo) * f))) := ⟨_, rfl⟩
        rw [← Hsg18]
        replace Hsg18 := Lib.hid Hsg18
        by_cases q19 : topQ L k ≤ lo + ((hi - lo) * f)
        · have q19_ : sg18 ≤ 0 := by have h := sq_le (topQ L k) (lo + ((hi - lo) * f)); rw [← Hsg18.out] at h; exact h.2 q19
          have q19H := Lib.hid q19
          clear q19
          have q19d : decide (sg18 ≤ 0) = true := decide_eq_true q19_
          have cx_0 : w34.cell? ⟨gx, 0, none⟩ = some (.bool sh13) := Blx.at 0 rfl
          have cx_1 : w34.cell? ⟨gx, 1, none⟩ = some (.slice ah13 nh13 ch13) := Blx.at 1 rfl
          have cx_2 : w34.cell? ⟨gx, 2, none⟩ = some (.slice Ah13 Nh13 Ch13) := Blx.at 2 rfl
          have Lx : gx < w34.heap.size := Blx.lt
          have cbottom_0 : w34.cell? ⟨w32.heap.size, 0, none⟩ = some (.bool sh17) := Blbottom.at 0 rfl
          have cbottom_1 : w34.cell? ⟨w32.heap.size, 1, none⟩ = some (.slice ah17 nh17 ch17) := Blbottom.at 1 rfl
          have cbottom_2 : w34.cell? ⟨w32.heap.size, 2, none⟩ = some (.slice Ah17 Nh17 Ch17) := Blbottom.at 2 rfl
          have Lbottom : w32.heap.size < w34.heap.size := Blbottom.lt
          go_wp2_with fail
          clear cx_0 cx_1 cx_2 cbottom_0 cbottom_1 cbottom_2 Lx Lbottom
          with_reducible refine (pCmp h13 h17 (SzQ.fit (SzQ.add slo (SzQ.mul (SzQ.sub shi slo) sf))) (SzQ.fit (SzQ.add (HTM.out k (by omega)) (HZ1.out k (by omega))))).mono ?_
          rintro e w35 ⟨rfl, hb⟩
          replace hs := bStep hs hb
          replace Bldepth := Bldepth.mono hb
          replace Blr := Blr.mono hb
          replace Blk := Blk.mono hb
          replace Blf := Blf.mono hb
          replace Blx := Blx.mono hb
          replace Bltop := Bltop.mono hb
          replace Bly := Bly.mono hb
          replace Blbottom := Blbottom.mono hb
          replace h7a := h7a.mono hb
          replace h7b := h7b.mono hb
          replace h8a := h8a.mono hb
          replace h8b := h8b.mono hb
          replace h9 := h9.mono hb
          replace h13 := h13.mono hb
          replace h14 := h14.mono hb
          replace he16 := he16.mono hb
          replace h17 := h17.mono hb
          replace h6 := rowsPB _ _ _ h6 hb
          clear hb
          obtain ⟨sg20, Hsg20⟩ : ∃ s : Int, s = sgQ ((lo + ((hi - lo) * f)) - (topQ L k + nthQ L k)) := ⟨_, rfl⟩
          rw [← Hsg20]
          replace Hsg20 := Lib.hid Hsg20
          by_cases q21 : lo + ((hi - lo) * f) ≤ topQ L k + nthQ L k
          · have q21_ : sg20 ≤ 0 := by have h := sq_le (lo + ((hi - lo) * f)) (topQ L k + nthQ L k); rw [← Hsg20.out] at h; exact h.2 q21
            have q21H := Lib.hid q21
            clear q21
            have q21d : decide (sg20 ≤ 0) = true := decide_eq_true q21_
            exact absurd HPF.out (by have := (plF_hit (hit_of HX1.out HX2.out q19H.out q21H.out) L.length (by omega)).1; omega)
          · have q21_ : ¬ (sg20 ≤ 0) := by have h := sq_le (lo + ((hi - lo) * f)) (topQ L k + nthQ L k); rw [← Hsg20.out] at h; exact fun h1 => q21 (h.1 h1)
            have q21H := Lib.hid q21
            clear q21
            have q21d : decide (sg20 ≤ 0) = false := decide_eq_false q21_
            have cbottom_0 : w35.cell? ⟨w32.heap.size, 0, none⟩ = some (.bool sh17) := Blbottom.at 0 rfl
            have cbottom_1 : w35.cell? ⟨w32.heap.size, 1, none⟩ = some (.slice ah17 nh17 ch17) := Blbottom.at 1 rfl
            have cbottom_2 : w35.cell? ⟨w32.heap.size, 2, none⟩ = some (.slice Ah17 Nh17 Ch17) := Blbottom.at 2 rfl
            have Lbottom : w32.heap.size < w35.heap.size := Blbottom.lt
            have ctop_0 : w35.cell? ⟨wc.heap.size, 0, none⟩ = some (.bool sh14) := Bltop.at 0 rfl
            have ctop_1 : w35.cell? ⟨wc.heap.size, 1, none⟩ = some (.slice ah14 nh14 ch14) := Bltop.at 1 rfl
            have ctop_2 : w35.cell? ⟨wc.heap.size, 2, none⟩ = some (.slice Ah14 Nh14 Ch14) := Bltop.at 2 rfl
            have ftop := Bltop.free
            have Ltop : wc.heap.size < w35.heap.size := Bltop.lt
            go_upto_region 18 with fail
            clear cbottom_0 cbottom_1 cbottom_2 ctop_0 ctop_1 ctop_2 ftop Lbottom Ltop
            refine Code.abs ?_
            intro w36 hW
            have hG : Gr [wc.heap.size] w35 w36 := by rw [hW]; exact (Gr.refl _ _).set.set.set
            have hsz := hs.size
            have ltop := Bltop.lt
            have hbw : Below w.heap.size w35 w36 := hG.below1 hs.size (by first | omega | assumption)
            have hk : KeepD w35 w36 := hG.keep ⟨⟨_, Bltop.ty, by decide⟩, True.intro⟩
            have Bl1top : Bx w36 (wc.heap.size) 40 #[.bool sh17, .slice ah17 nh17 ch17, .slice Ah17 Nh17 Ch17] := by rw [hW]; exact Bltop.set3
            replace hs := hs.trans hbw
            replace h6 := h6.gr PC.kept hG (notMem1 (by omega)) hk
            replace Bldepth := hG.bx Bldepth (notMem1 (by omega))
            replace Blr := hG.bx Blr (notMem1 (by omega))
            replace Blk := hG.bx Blk (notMem1 (by omega))
            replace Blf := hG.bx Blf (notMem1 (by omega))
            replace Blx := hG.bx Blx (notMem1 (by omega))
            replace Bly := hG.bx Bly (notMem1 (by omega))
            replace Blbottom := hG.bx Blbottom (notMem1 (by omega))
            replace Bltop := Bl1top
            clear Bl1top
            replace h7a := h7a.keep hk
            replace h7b := h7b.keep hk
            replace h8a := h8a.keep hk
            replace h8b := h8b.keep hk
            replace h9 := h9.keep hk
            replace h13 := h13.keep hk
            replace h14 := h14.keep hk
            replace he16 := he16.keep hk
            replace h17 := h17.keep hk
            clear hW hG hk hbw hsz ltop
            go_wp2
            go_roundw
            case rel => exact ⟨k + 1, by omega, by go_num, hs, Bldepth, Blr, Blk, Blf, Blx, h7a, h7b, h8a, h8b, h9, h13, h6, ⟨_, _, _, _, _, _, _, Bltop, h17.of_eq rfl⟩⟩
            all_goals first | (simp [intOf]; done) | (simp [intOf]; omega)
        · have q19_ : ¬ (sg18 ≤ 0) := by have h := sq_le (topQ L k) (lo + ((hi - lo) * f)); rw [← Hsg18.out] at h; exact fun h1 => q19 (h.1 h1)
          have q19H := Lib.hid q19
          clear q19
          have q19d : decide (sg18 ≤ 0) = false := decide_eq_false q19_
          have cbottom_0 : w34.cell? ⟨w32.heap.size, 0, none⟩ = some (.bool sh17) := Blbottom.at 0 rfl
          have cbottom_1 : w34.cell? ⟨w32.heap.size, 1, none⟩ = some (.slice ah17 nh17 ch17) := Blbottom.at 1 rfl
          have cbottom_2 : w34.cell? ⟨w32.heap.size, 2, none⟩ = some (.slice Ah17 Nh17 Ch17) := Blbottom.at 2 rfl
          have Lbottom : w32.heap.size < w34.heap.size := Blbottom.lt
          have ctop_0 : w34.cell? ⟨wc.heap.size, 0, none⟩ = some (.bool sh14) := Bltop.at 0 rfl
          have ctop_1 : w34.cell? ⟨wc.heap.size, 1, none⟩ = some (.slice ah14 nh14 ch14) := Bltop.at 1 rfl
          have ctop_2 : w34.cell? ⟨wc.heap.size, 2, none⟩ = some (.slice Ah14 Nh14 Ch14) := Bltop.at 2 rfl
          have ftop := Bltop.free
          have Ltop : wc.heap.size < w34.heap.size := Bltop.lt
          go_upto_region 18 with fail
          clear cbottom_0 cbottom_1 cbottom_2 ctop_0 ctop_1 ctop_2 ftop Lbottom Ltop
          refine Code.abs ?_
          intro w35 hW
          have hG : Gr [wc.heap.size] w34 w35 := by rw [hW]; exact (Gr.refl _ _).set.set.set
          have hsz := hs.size
          have ltop := Bltop.lt
          have hbw : Below w.heap.size w34 w35 := hG.below1 hs.size (by first | omega | assumption)
          have hk : KeepD w34 w35 := hG.keep ⟨⟨_, Bltop.ty, by decide⟩, True.intro⟩
          have Bl1top : Bx w35 (wc.heap.size) 40 #[.bool sh17, .slice ah17 nh17 ch17, .slice Ah17 Nh17 Ch17] := by rw [hW]; exact Bltop.set3
          replace hs := hs.trans hbw
          replace h6 := h6.gr PC.kept hG (notMem1 (by omega)) hk
          replace Bldepth := hG.bx Bldepth (notMem1 (by omega))
          replace Blr := hG.bx Blr (notMem1 (by omega))
          replace Blk := hG.bx Blk (notMem1 (by omega))
          replace Blf := hG.bx Blf (notMem1 (by omega))
          replace Blx := hG.bx Blx (notMem1 (by omega))
          replace Bly := hG.bx Bly (notMem1 (by omega))
          replace Blbottom := hG.bx Blbottom (notMem1 (by omega))
          replace Bltop := Bl1top
          clear Bl1top
          replace h7a := h7a.keep hk
          replace h7b := h7b.keep hk
          replace h8a := h8a.keep hk
          replace h8b := h8b.keep hk
          replace h9 := h9.keep hk
          replace h13 := h13.keep hk
          replace h14 := h14.keep hk
          replace he16 := he16.keep hk
          replace h17 := h17.keep hk
          clear hW hG hk hbw hsz ltop
          go_wp2
          go_roundw
          case rel => exact ⟨k + 1, by omega, by go_num, hs, Bldepth, Blr, Blk, Blf, Blx, h7a, h7b, h8a, h8b, h9, h13, h6, ⟨_, _, _, _, _, _, _, Bltop, h17.of_eq rfl⟩⟩
          all_goals first | (simp [intOf]; done) | (simp [intOf]; omega)
      · have q15d : ((k : Int) < (L.length : Int)) = False := eq_false (by omega)
        go_wp2_with fail
        with_reducible refine (HAW.out _).mono ?_
        rintro e w31 ⟨rfl, hb⟩
        replace hs := bStep hs hb
        replace Bldepth := Bldepth.mono hb
        replace Blr := Blr.mono hb
        replace Blk := Blk.mono hb
        replace Blf := Blf.mono hb
        replace Blx := Blx.mono hb
        replace Bltop := Bltop.mono hb
        replace h7a := h7a.mono hb
        replace h7b := h7b.mono hb
        replace h8a := h8a.mono hb
        replace h8b := h8b.mono hb
        replace h9 := h9.mono hb
        replace h13 := h13.mono hb
        replace h14 := h14.mono hb
        replace h6 := rowsPB _ _ _ h6 hb
        clear hb
        go_wp2
        go_ret
        exact ⟨rfl, hs⟩

set_option maxRecDepth 100000 in
set_option maxHeartbeats 16000000 in
theorem l7_ScanPlies_yes (hAw : ∀ w : World, Calls Tryz.prog 12 #[] w (RetV w (.bool true))) (v : Value) (l : List (Int × Int)) (n1 d1 n2 d2 p : Int) (w : World) (hl : RowsI 2 FC w v l) (hok : ∀ x ∈ l, DOk x) (o1 : DOk (n1, d1)) (o2 : DOk (n2, d2)) (hp0 : 0 ≤ p) (hp1 : p ≤ 255) (L : List Rat) (lo hi f : Rat) (hLQ : L = l.map frF) (hlo : lo = mnQ (fracQ n1 d1) (fracQ n2 d2)) (hhi : hi = mxQ (fracQ n1 d1) (fracQ n2 d2)) (hf : f = (p : Rat) / ((255 : Int) : Rat))
    (hsl : l.all shortF = true) (hs3 : [(n1, d1), (n2, d2)].all shortF = true) (h12 : l.length ≤ 12) (h1 : 1 ≤ l.length) (hap : allPos L = true) (hpf : ¬ plF L lo hi L.length < 0) :
    Calls Tryz.prog 6 #[v, .agg #[.int .i64 n1, .int .i64 d1, .int .i64 n2, .int .i64 d2], .int .u8 p] w (RetV w (.bool true)) := by
  obtain ⟨ao, cap, rfl, hc1, hc2, hc3⟩ := hl.slice
  have hs := Below.refl w.heap.size w
  have hL1 : L.length ≤ l.length := by rw [hLQ]; exact Nat.le_of_eq (List.length_map _)
  have hL2 : l.length ≤ L.length := by rw [hLQ]; exact Nat.le_of_eq (List.length_map _).symm
  have hs12 : shortF (n1, d1) = true ∧ shortF (n2, d2) = true := by simpa using hs3
  have z1 : ∀ i, i < L.length → SzQ 1 (nthQ L i) := fun i hi => by
    subst hLQ
    obtain ⟨x, hx, e⟩ := List.mem_map.1 (List.mem_of_getElem? (nthQ_some hi))
    rw [← e]
    obtain ⟨n, d⟩ := x
    have h1 := List.all_eq_true.1 hsl _ hx
    have h2 := hok _ hx
    obtain ⟨b1, b2, b3, b4⟩ := h2
    simp only [shortF, Bool.not_eq_true', Bool.or_eq_false_iff, decide_eq_false_iff_not] at h1
    dsimp only at b1 b2 b3 b4
    exact szQ_fracQ (by omega) (by omega)
  have hz5 : ∀ i, i < L.length → SzQ 50000 (nthQ L i) := fun i hi => (z1 i hi).mono (by omega)
  have szf : ∀ n d : Int, shortF (n, d) = true → DOk (n, d) → SzQ 1 (fracQ n d) := fun n d h1 h2 => by
    obtain ⟨b1, b2, b3, b4⟩ := h2
    simp only [shortF, Bool.not_eq_true', Bool.or_eq_false_iff, decide_eq_false_iff_not] at h1
    dsimp only at b1 b2 b3 b4
    exact szQ_fracQ (by omega) (by omega)
  have slo : SzQ 1 lo := by rw [hlo]; exact mnQ_sz (szf _ _ hs12.1 o1) (szf _ _ hs12.2 o2)
  have shi : SzQ 1 hi := by rw [hhi]; exact mxQ_sz (szf _ _ hs12.1 o1) (szf _ _ hs12.2 o2)
  have sf : SzQ 1 f := by rw [hf]; exact szQ_frac (by omega) (by decide) (by decide)
  have hlh : lo ≤ hi := by rw [hlo, hhi]; exact mnQ_le_mxQ _ _
  have hfb := part_bd hp0 hp1
  rw [← hf] at hfb
  have HX1 := Lib.hid (between_lo hlh hfb.1)
  have HX2 := Lib.hid (between_hi hlh hfb.2)
  have HTM := Lib.hid (topQ_mid hz5 (by omega))
  have HZ1 := Lib.hid z1
  have HZ5 := Lib.hid hz5
  have HS1 := Lib.hid hs12.1
  have HS2 := Lib.hid hs12.2
  have HS3 := Lib.hid hs3
  have HSL := Lib.hid hsl
  have HO1 := Lib.hid o1
  have HO2 := Lib.hid o2
  have HLQ := Lib.hid hLQ
  have HLO := Lib.hid hlo
  have HHI := Lib.hid hhi
  have HFQ := Lib.hid hf
  have HAW := Lib.hid hAw
  have HL := Lib.hid hl
  have HOK := Lib.hid hok
  have HAP := Lib.hid hap
  have HPF := Lib.hid hpf
  obtain ⟨fv, hfv⟩ : ∃ x, plF L lo hi L.length = x := ⟨_, rfl⟩
  obtain ⟨gv, hgv⟩ : ∃ x, plL L lo hi L.length = x := ⟨_, rfl⟩
  have HFV := Lib.hid hfv
  have HGV := Lib.hid hgv
  clear z1 hz5 hs12 hs3 hsl o1 o2 hlo hhi hf hlh hfb szf hAw hl hok hLQ hap hpf hfv hgv
  go_enter Tryz.func6, Tryz.ntmps6
  go_wp2_with fail
  refine Calls.abs ?_
  intro w1 hW
  have hG : Gr [] w w1 := by rw [hW]; exact (Gr.refl _ _).alloc
  have hbw : Below w.heap.size w w1 := hG.below0 hs.size
  have hk : KeepD w w1 := hG.keep True.intro
  have sz_w1 : w.heap.size ≤ w.heap.size := hs.size
  have Bldepth : Bx w1 (w.heap.size) 83 #[.int .i64 n1, .int .i64 d1, .int .i64 n2, .int .i64 d2] := by rw [hW]; exact (Bx.new0 _ _ _)
  replace hs := hs.trans hbw
  clear hW hG hk hbw
  have hz_w1 : w.heap.size < w1.heap.size := Bldepth.lt
  with_reducible refine (l7_short _ l _ (HL.out.mono FC.kept hs)).mono ?_
  rintro e w2 ⟨rfl, hb⟩
  replace hs := bStep hs hb
  replace Bldepth := Bldepth.mono hb
  clear hb
  obtain ⟨b1, Hb1⟩ : ∃ b : Bool, b = l.all shortF := ⟨_, rfl⟩
  rw [← Hb1]
  replace Hb1 := Lib.hid Hb1
  have q2 : l.all shortF = true := HSL.out
  obtain rfl : b1 = true := by rw [Hb1.out]; exact q2
  have q2H := Lib.hid q2
  clear q2
  go_wp2_with fail
  with_reducible refine (l7_short _ [(n1, d1), (n2, d2)] _ (rowsF2 Bldepth)).mono ?_
  rintro e w3 ⟨rfl, hb⟩
  replace hs := bStep hs hb
  replace Bldepth := Bldepth.mono hb
  clear hb
  obtain ⟨b3, Hb3⟩ : ∃ b : Bool, b = [(n1, d1), (n2, d2)].all shortF := ⟨_, rfl⟩
  rw [← Hb3]
  replace Hb3 := Lib.hid Hb3
  have q4 : [(n1, d1), (n2, d2)].all shortF = true := HS3.out
  obtain rfl : b3 = true := by rw [Hb3.out]; exact q4
  have q4H := Lib.hid q4
  clear q4
  have q5 : ¬ (12 < l.length) := by omega
  have q5d : ((12 : Int) < (l.length : Int)) = False := eq_false (by omega)
  go_wp2_with fail
  with_reducible refine (l7_numbers _ l _ (HL.out.mono FC.kept hs) (by omega) HOK.out).mono ?_
  rintro e w4 ⟨_, _, rfl, h6, _, hb⟩
  rw [← HLQ.out] at h6
  obtain ⟨bh6, oh6, kh6, rfl, h61, h62, -⟩ := h6.open_ (by omega)
  replace hs := bStep hs hb
  replace Bldepth := Bldepth.mono hb
  clear hb
  have cdepth_0 : w4.cell? ⟨w.heap.size, 0, none⟩ = some (.int .i64 n1) := Bldepth.at 0 rfl
  have cdepth_1 : w4.cell? ⟨w.heap.size, 1, none⟩ = some (.int .i64 d1) := Bldepth.at 1 rfl
  have cdepth_2 : w4.cell? ⟨w.heap.size, 2, none⟩ = some (.int .i64 n2) := Bldepth.at 2 rfl
  have cdepth_3 : w4.cell? ⟨w.heap.size, 3, none⟩ = some (.int .i64 d2) := Bldepth.at 3 rfl
  have Ldepth : w.heap.size < w4.heap.size := Bldepth.lt
  go_wp2_with fail
  clear cdepth_0 cdepth_1 cdepth_2 cdepth_3 Ldepth
  with_reducible refine (l7_span_ _ HS1.out HS2.out HO1.out HO2.out HLO.out HHI.out).mono ?_
  rintro e w5 ⟨_, _, rfl, h7, h8, hb⟩
  obtain ⟨sh7a, ah7a, nh7a, ch7a, Ah7a, Nh7a, Ch7a, sh7b, ah7b, nh7b, ch7b, Ah7b, Nh7b, Ch7b, rfl, h7a, h7b⟩ := h7.shape
  obtain ⟨sh8a, ah8a, nh8a, ch8a, Ah8a, Nh8a, Ch8a, sh8b, ah8b, nh8b, ch8b, Ah8b, Nh8b, Ch8b, rfl, h8a, h8b⟩ := h8.shape
  replace hs := bStep hs hb
  replace Bldepth := Bldepth.mono hb
  replace h6 := rowsPB _ _ _ h6 hb
  clear hb
  go_wp2_with fail
  refine Calls.abs ?_
  intro w6 hW
  have hG : Gr [] w5 w6 := by rw [hW]; exact (Gr.refl _ _).alloc.alloc
  have hbw : Below w.heap.size w5 w6 := hG.below0 hs.size
  have hk : KeepD w5 w6 := hG.keep True.intro
  have sz_w6 : w.heap.size ≤ w5.heap.size := hs.size
  have ndepth_w6 : w.heap.size < w5.heap.size := Bldepth.lt
  have nh6_w6 : bh6 < w5.heap.size := h6.lt (by omega)
  have Blr : Bx w6 (w5.heap.size) 86 #[.bool sh7a, .slice ah7a nh7a ch7a, .slice Ah7a Nh7a Ch7a, .bool sh7b, .slice ah7b nh7b ch7b, .slice Ah7b Nh7b Ch7b] := by rw [hW]; exact ((Bx.new0 _ _ _).alloc _)
  have Blk : Bx w6 (w5.heap.size + 1) 88 #[.bool sh8a, .slice ah8a nh8a ch8a, .slice Ah8a Nh8a Ch8a, .bool sh8b, .slice ah8b nh8b ch8b, .slice Ah8b Nh8b Ch8b] := by rw [hW]; exact (Bx.new0 _ _ _)
  replace hs := hs.trans hbw
  replace h6 := rowsPB _ _ _ h6 (hG.below0 (Nat.le_refl _))
  replace Bldepth := hG.bx Bldepth notMem0
  replace h7a := h7a.keep hk
  replace h7b := h7b.keep hk
  replace h8a := h8a.keep hk
  replace h8b := h8b.keep hk
  clear hW hG hk hbw
  have hz_w6 : w5.heap.size + 1 < w6.heap.size := Blk.lt
  with_reducible refine (sc_Plies_1 h6 (by omega) (by omega) HAP.out HZ5.out (PV2.mk h7a h7b) (SzQ.mid slo) (SzQ.mid shi) (by have := HPF.out; omega) HFV.out HGV.out).mono ?_
  rintro e w7 ⟨rfl, hb⟩
  replace hs := bStep hs hb
  replace Bldepth := Bldepth.mono hb
  replace Blr := Blr.mono hb
  replace Blk := Blk.mono hb
  replace h7a := h7a.mono hb
  replace h7b := h7b.mono hb
  replace h8a := h8a.mono hb
  replace h8b := h8b.mono hb
  replace h6 := rowsPB _ _ _ h6 hb
  clear hb
  go_wp2_with fail
  with_reducible refine (p_New_part _ (by omega) (by omega) HFQ.out).mono ?_
  rintro e w8 ⟨_, rfl, h9, hb⟩
  obtain ⟨sh9, ah9, nh9, ch9, Ah9, Nh9, Ch9, rfl⟩ := h9.shape
  replace hs := bStep hs hb
  replace Bldepth := Bldepth.mono hb
  replace Blr := Blr.mono hb
  replace Blk := Blk.mono hb
  replace h7a := h7a.mono hb
  replace h7b := h7b.mono hb
  replace h8a := h8a.mono hb
  replace h8b := h8b.mono hb
  replace h6 := rowsPB _ _ _ h6 hb
  clear hb
  go_upto_region 9 with fail
  refine Code.abs ?_
  intro w9 hW
  have hG : Gr [] w8 w9 := by rw [hW]; exact (Gr.refl _ _).alloc
  have hbw : Below w.heap.size w8 w9 := hG.below0 hs.size
  have hk : KeepD w8 w9 := hG.keep True.intro
  have sz_w9 : w.heap.size ≤ w8.heap.size := hs.size
  have ndepth_w9 : w.heap.size < w8.heap.size := Bldepth.lt
  have nr_w9 : w5.heap.size < w8.heap.size := Blr.lt
  have nk_w9 : w5.heap.size + 1 < w8.heap.size := Blk.lt
  have nh6_w9 : bh6 < w8.heap.size := h6.lt (by omega)
  have Blf : Bx w9 (w8.heap.size) 40 #[.bool sh9, .slice ah9 nh9 ch9, .slice Ah9 Nh9 Ch9] := by rw [hW]; exact (Bx.new0 _ _ _)
  replace hs := hs.trans hbw
  replace h6 := rowsPB _ _ _ h6 (hG.below0 (Nat.le_refl _))
  replace Bldepth := hG.bx Bldepth notMem0
  replace Blr := hG.bx Blr notMem0
  replace Blk := hG.bx Blk notMem0
  replace h7a := h7a.keep hk
  replace h7b := h7b.keep hk
  replace h8a := h8a.keep hk
  replace h8b := h8b.keep hk
  replace h9 := h9.keep hk
  clear hW hG hk hbw
  have hz_w9 : w8.heap.size < w9.heap.size := Blf.lt
  go_cut [16] (fun kv wz => ∃ gx sh13 ah13 nh13 ch13 Ah13 Nh13 Ch13, kv = .pointer (some ⟨gx, 0, none⟩) ∧ w.heap.size ≤ gx ∧ gx ≠ w.heap.size ∧ gx ≠ w5.heap.size ∧ gx ≠ (w5.heap.size + 1) ∧ gx ≠ w8.heap.size ∧ bh6 ≠ gx ∧ Bx wz gx 40 #[.bool sh13, .slice ah13 nh13 ch13, .slice Ah13 Nh13 Ch13] ∧ Below w.heap.size w wz ∧ Bx wz (w.heap.size) 83 #[.int .i64 n1, .int .i64 d1, .int .i64 n2, .int .i64 d2] ∧ Bx wz (w5.heap.size) 86 #[.bool sh7a, .slice ah7a nh7a ch7a, .slice Ah7a Nh7a Ch7a, .bool sh7b, .slice ah7b nh7b ch7b, .slice Ah7b Nh7b Ch7b] ∧ Bx wz (w5.heap.size + 1) 88 #[.bool sh8a, .slice ah8a nh8a ch8a, .slice Ah8a Nh8a Ch8a, .bool sh8b, .slice ah8b nh8b ch8b, .slice Ah8b Nh8b Ch8b] ∧ Bx wz (w8.heap.size) 40 #[.bool sh9, .slice ah9 nh9 ch9, .slice Ah9 Nh9 Ch9] ∧ PV wz (.agg #[.bool sh7a, .slice ah7a nh7a ch7a, .slice Ah7a Nh7a Ch7a]) (lo) ∧ PV wz (.agg #[.bool sh7b, .slice ah7b nh7b ch7b, .slice Ah7b Nh7b Ch7b]) (hi) ∧ RV wz (.agg #[.bool sh8a, .slice ah8a nh8a ch8a, .slice Ah8a Nh8a Ch8a]) (lo) ∧ RV wz (.agg #[.bool sh8b, .slice ah8b nh8b ch8b, .slice Ah8b Nh8b Ch8b]) (hi) ∧ PV wz (.agg #[.bool sh9, .slice ah9 nh9 ch9, .slice Ah9 Nh9 Ch9]) (f) ∧ PV wz (.agg #[.bool sh13, .slice ah13 nh13 ch13, .slice Ah13 Nh13 Ch13]) (lo + ((hi - lo) * f)) ∧ Rows 3 40 PC wz (.slice (some ⟨bh6, oh6, none⟩) L.length kh6) L)
  case first =>
    refine U_region (S := fun w' => w'.cell? ⟨w5.heap.size, 0, none⟩ = some (.bool sh7a) ∧ w'.cell? ⟨w5.heap.size, 1, none⟩ = some (.slice ah7a nh7a ch7a) ∧ w'.cell? ⟨w5.heap.size, 2, none⟩ = some (.slice Ah7a Nh7a Ch7a) ∧ w'.cell? ⟨w5.heap.size, 3, none⟩ = some (.bool sh7b) ∧ w'.cell? ⟨w5.heap.size, 4, none⟩ = some (.slice ah7b nh7b ch7b) ∧ w'.cell? ⟨w5.heap.size, 5, none⟩ = some (.slice Ah7b Nh7b Ch7b) ∧ w'.cell? ⟨w8.heap.size, 0, none⟩ = some (.bool sh9) ∧ w'.cell? ⟨w8.heap.size, 1, none⟩ = some (.slice ah9 nh9 ch9) ∧ w'.cell? ⟨w8.heap.size, 2, none⟩ = some (.slice Ah9 Nh9 Ch9)) (by kernel_rfl) 8 ?_
    refine AnyU.abs ?_
    intro w10 hW
    have hb : Below w9.heap.size w9 w10 := by rw [hW]; exact bDrew _
    replace hs := bStep hs hb
    replace Bldepth := Bldepth.mono hb
    replace Blr := Blr.mono hb
    replace Blk := Blk.mono hb
    replace Blf := Blf.mono hb
    replace h7a := h7a.mono hb
    replace h7b := h7b.mono hb
    replace h8a := h8a.mono hb
    replace h8b := h8b.mono hb
    replace h9 := h9.mono hb
    replace h6 := rowsPB _ _ _ h6 hb
    clear hb hW
    have cr_0 : w10.cell? ⟨w5.heap.size, 0, none⟩ = some (.bool sh7a) := Blr.at 0 rfl
    have cr_1 : w10.cell? ⟨w5.heap.size, 1, none⟩ = some (.slice ah7a nh7a ch7a) := Blr.at 1 rfl
    have cr_2 : w10.cell? ⟨w5.heap.size, 2, none⟩ = some (.slice Ah7a Nh7a Ch7a) := Blr.at 2 rfl
    have cr_3 : w10.cell? ⟨w5.heap.size, 3, none⟩ = some (.bool sh7b) := Blr.at 3 rfl
    have cr_4 : w10.cell? ⟨w5.heap.size, 4, none⟩ = some (.slice ah7b nh7b ch7b) := Blr.at 4 rfl
    have cr_5 : w10.cell? ⟨w5.heap.size, 5, none⟩ = some (.slice Ah7b Nh7b Ch7b) := Blr.at 5 rfl
    have cf_0 : w10.cell? ⟨w8.heap.size, 0, none⟩ = some (.bool sh9) := Blf.at 0 rfl
    have cf_1 : w10.cell? ⟨w8.heap.size, 1, none⟩ = some (.slice ah9 nh9 ch9) := Blf.at 1 rfl
    have cf_2 : w10.cell? ⟨w8.heap.size, 2, none⟩ = some (.slice Ah9 Nh9 Ch9) := Blf.at 2 rfl
    have hH := (show w10.cell? ⟨w5.heap.size, 0, none⟩ = some (.bool sh7a) ∧ w10.cell? ⟨w5.heap.size, 1, none⟩ = some (.slice ah7a nh7a ch7a) ∧ w10.cell? ⟨w5.heap.size, 2, none⟩ = some (.slice Ah7a Nh7a Ch7a) ∧ w10.cell? ⟨w5.heap.size, 3, none⟩ = some (.bool sh7b) ∧ w10.cell? ⟨w5.heap.size, 4, none⟩ = some (.slice ah7b nh7b ch7b) ∧ w10.cell? ⟨w5.heap.size, 5, none⟩ = some (.slice Ah7b Nh7b Ch7b) ∧ w10.cell? ⟨w8.heap.size, 0, none⟩ = some (.bool sh9) ∧ w10.cell? ⟨w8.heap.size, 1, none⟩ = some (.slice ah9 nh9 ch9) ∧ w10.cell? ⟨w8.heap.size, 2, none⟩ = some (.slice Ah9 Nh9 Ch9) from ⟨cr_0, cr_1, cr_2, cr_3, cr_4, cr_5, cf_0, cf_1, cf_2⟩)
    refine U_take (i := 0) (v := ?_) rfl (by kernel_rfl) (by kernel_rfl) (by kernel_rfl) (by kernel_rfl) (fun _ _ _ h => h) (Or.inl ⟨by rfl, ?_⟩) hH ?_
    rotate_left
    · intro w hSw
      try dsimp only at hSw
      go_simp
      try with_reducible rfl
    try simp only [Act.put, List.setIfInBounds_toArray, List.set_cons_zero, List.set_cons_succ]
    refine U_take (i := 2) (v := ?_) rfl (by kernel_rfl) (by kernel_rfl) (by kernel_rfl) (by kernel_rfl) (fun _ _ _ h => h) (Or.inl ⟨by rfl, ?_⟩) hH ?_
    rotate_left
    · intro w hSw
      try dsimp only at hSw
      go_simp
      try with_reducible rfl
    try simp only [Act.put, List.setIfInBounds_toArray, List.set_cons_zero, List.set_cons_succ]
    refine U_take (i := 4) (v := ?_) rfl (by kernel_rfl) (by kernel_rfl) (by kernel_rfl) (by kernel_rfl) (fun _ _ _ h => h) (Or.inl ⟨by rfl, ?_⟩) hH ?_
    rotate_left
    · intro w hSw
      try dsimp only at hSw
      go_simp
      try with_reducible rfl
    try simp only [Act.put, List.setIfInBounds_toArray, List.set_cons_zero, List.set_cons_succ]
    refine U_two (i := 1) (j := 7) (by kernel_rfl) rfl rfl (fun K hK => ?_) (fun K hK => ?_)
    · clear hH
      go_simp
      (with_reducible refine (p_Lo _ _ _ _ (PV2.mk h7a h7b)).mono ?_)
      rintro e w11 ⟨_, rfl, h10, hb⟩
      obtain ⟨sh10, ah10, nh10, ch10, Ah10, Nh10, Ch10, rfl⟩ := h10.shape
      replace hs := bStep hs hb
      replace Bldepth := Bldepth.mono hb
      replace Blr := Blr.mono hb
      replace Blk := Blk.mono hb
      replace Blf := Blf.mono hb
      replace h7a := h7a.mono hb
      replace h7b := h7b.mono hb
      replace h8a := h8a.mono hb
      replace h8b := h8b.mono hb
      replace h9 := h9.mono hb
      replace h6 := rowsPB _ _ _ h6 hb
      replace cr_0 := cellK cr_0 hb
      replace cr_1 := cellK cr_1 hb
      replace cr_2 := cellK cr_2 hb
      replace cr_3 := cellK cr_3 hb
      replace cr_4 := cellK cr_4 hb
      replace cr_5 := cellK cr_5 hb
      replace cf_0 := cellK cf_0 hb
      replace cf_1 := cellK cf_1 hb
      replace cf_2 := cellK cf_2 hb
      clear hb
      try go_wp2_with fail
      refine hK.out _ _ ⟨cr_0, cr_1, cr_2, cr_3, cr_4, cr_5, cf_0, cf_1, cf_2⟩ (fun hH => ?_)
      clear hK K
      try simp only [Act.put, List.setIfInBounds_toArray, List.set_cons_zero, List.set_cons_succ]
      refine U_two (i := 3) (j := 7) (by kernel_rfl) rfl rfl (fun K hK => ?_) (fun K hK => ?_)
      · clear hH
        go_simp
        (with_reducible refine (p_Width _ _ _ _ (PV2.mk h7a h7b) (SzQ.mid slo) (SzQ.mid shi)).mono ?_)
        rintro e w12 ⟨_, rfl, h11, hb⟩
        obtain ⟨sh11, ah11, nh11, ch11, Ah11, Nh11, Ch11, rfl⟩ := h11.shape
        replace hs := bStep hs hb
        replace Bldepth := Bldepth.mono hb
        replace Blr := Blr.mono hb
        replace Blk := Blk.mono hb
        replace Blf := Blf.mono hb
        replace h7a := h7a.mono hb
        replace h7b := h7b.mono hb
        replace h8a := h8a.mono hb
        replace h8b := h8b.mono hb
        replace h9 := h9.mono hb
        replace h10 := h10.mono hb
        replace h6 := rowsPB _ _ _ h6 hb
        replace cr_0 := cellK cr_0 hb
        replace cr_1 := cellK cr_1 hb
        replace cr_2 := cellK cr_2 hb
        replace cr_3 := cellK cr_3 hb
        replace cr_4 := cellK cr_4 hb
        replace cr_5 := cellK cr_5 hb
        replace cf_0 := cellK cf_0 hb
        replace cf_1 := cellK cf_1 hb
        replace cf_2 := cellK cf_2 hb
        clear hb
        try go_wp2_with fail
        refine hK.out _ _ ⟨cr_0, cr_1, cr_2, cr_3, cr_4, cr_5, cf_0, cf_1, cf_2⟩ (fun hH => ?_)
        clear hK K
        try simp only [Act.put, List.setIfInBounds_toArray, List.set_cons_zero, List.set_cons_succ]
        refine U_two (i := 5) (j := 7) (by kernel_rfl) rfl rfl (fun K hK => ?_) (fun K hK => ?_)
        · clear hH
          go_simp
          (with_reducible refine (pMul h11 h9 (SzQ.fit (SzQ.sub shi slo)) (SzQ.fit sf)).mono ?_)
          rintro e w13 ⟨_, rfl, h12, hb⟩
          obtain ⟨sh12, ah12, nh12, ch12, Ah12, Nh12, Ch12, rfl⟩ := h12.shape
          replace hs := bStep hs hb
          replace Bldepth := Bldepth.mono hb
          replace Blr := Blr.mono hb
          replace Blk := Blk.mono hb
          replace Blf := Blf.mono hb
          replace h7a := h7a.mono hb
          replace h7b := h7b.mono hb
          replace h8a := h8a.mono hb
          replace h8b := h8b.mono hb
          replace h9 := h9.mono hb
          replace h10 := h10.mono hb
          replace h11 := h11.mono hb
          replace h6 := rowsPB _ _ _ h6 hb
          replace cr_0 := cellK cr_0 hb
          replace cr_1 := cellK cr_1 hb
          replace cr_2 := cellK cr_2 hb
          replace cr_3 := cellK cr_3 hb
          replace cr_4 := cellK cr_4 hb
          replace cr_5 := cellK cr_5 hb
          replace cf_0 := cellK cf_0 hb
          replace cf_1 := cellK cf_1 hb
          replace cf_2 := cellK cf_2 hb
          clear hb
          try go_wp2_with fail
          refine hK.out _ _ ⟨cr_0, cr_1, cr_2, cr_3, cr_4, cr_5, cf_0, cf_1, cf_2⟩ (fun hH => ?_)
          clear hK K
          try simp only [Act.put, List.setIfInBounds_toArray, List.set_cons_zero, List.set_cons_succ]
          refine U_two (i := 6) (j := 7) (by kernel_rfl) rfl rfl (fun K hK => ?_) (fun K hK => ?_)
          · clear hH
            go_simp
            (with_reducible refine (pAdd h10 h12 (SzQ.fit slo) (SzQ.fit (SzQ.mul (SzQ.sub shi slo) sf))).mono ?_)
            rintro e w14 ⟨_, rfl, h13, hb⟩
            obtain ⟨sh13, ah13, nh13, ch13, Ah13, Nh13, Ch13, rfl⟩ := h13.shape
            replace hs := bStep hs hb
            replace Bldepth := Bldepth.mono hb
            replace Blr := Blr.mono hb
            replace Blk := Blk.mono hb
            replace Blf := Blf.mono hb
            replace h7a := h7a.mono hb
            replace h7b := h7b.mono hb
            replace h8a := h8a.mono hb
            replace h8b := h8b.mono hb
            replace h9 := h9.mono hb
            replace h10 := h10.mono hb
            replace h11 := h11.mono hb
            replace h12 := h12.mono hb
            replace h6 := rowsPB _ _ _ h6 hb
            replace cr_0 := cellK cr_0 hb
            replace cr_1 := cellK cr_1 hb
            replace cr_2 := cellK cr_2 hb
            replace cr_3 := cellK cr_3 hb
            replace cr_4 := cellK cr_4 hb
            replace cr_5 := cellK cr_5 hb
            replace cf_0 := cellK cf_0 hb
            replace cf_1 := cellK cf_1 hb
            replace cf_2 := cellK cf_2 hb
            clear hb
            try go_wp2_with fail
            refine hK.out _ _ ⟨cr_0, cr_1, cr_2, cr_3, cr_4, cr_5, cf_0, cf_1, cf_2⟩ (fun hH => ?_)
            clear hK K
            try simp only [Act.put, List.setIfInBounds_toArray, List.set_cons_zero, List.set_cons_succ]
            clear hH
            refine U_one (i := 7) (by kernel_rfl) rfl (fun K hK => ?_)
            go_simp
            generalize hWn : (w14.alloc (.cells #[.bool false, .slice none 0 0, .slice none 0 0] 40)) = w15
            have hb : Below w14.heap.size w14 w15 := by rw [← hWn]; exact (Below.refl _ _).alloc (Nat.le_refl _) _
            have Blx : Bx w15 (w14.heap.size) 40 #[.bool false, .slice none 0 0, .slice none 0 0] := by rw [← hWn]; exact Bx.new _ _ _
            have ndepth_x : w.heap.size ≠ w14.heap.size := by have := Bldepth.lt; omega
            have nr_x : w5.heap.size ≠ w14.heap.size := by have := Blr.lt; omega
            have nk_x : w5.heap.size + 1 ≠ w14.heap.size := by have := Blk.lt; omega
            have nf_x : w8.heap.size ≠ w14.heap.size := by have := Blf.lt; omega
            have nh6_x : bh6 < w14.heap.size := h6.lt (by omega)
            have sz_x : w.heap.size ≤ w14.heap.size := hs.size
            replace hs := bStep hs hb
            replace Bldepth := Bldepth.mono hb
            replace Blr := Blr.mono hb
            replace Blk := Blk.mono hb
            replace Blf := Blf.mono hb
            replace h7a := h7a.mono hb
            replace h7b := h7b.mono hb
            replace h8a := h8a.mono hb
            replace h8b := h8b.mono hb
            replace h9 := h9.mono hb
            replace h10 := h10.mono hb
            replace h11 := h11.mono hb
            replace h12 := h12.mono hb
            replace h13 := h13.mono hb
            replace h6 := rowsPB _ _ _ h6 hb
            replace cr_0 := cellK cr_0 hb
            replace cr_1 := cellK cr_1 hb
            replace cr_2 := cellK cr_2 hb
            replace cr_3 := cellK cr_3 hb
            replace cr_4 := cellK cr_4 hb
            replace cr_5 := cellK cr_5 hb
            replace cf_0 := cellK cf_0 hb
            replace cf_1 := cellK cf_1 hb
            replace cf_2 := cellK cf_2 hb
            clear hb hWn
            refine hK.out _ _ ⟨cr_0, cr_1, cr_2, cr_3, cr_4, cr_5, cf_0, cf_1, cf_2⟩ (fun hH => ?_)
            clear hK K
            try simp only [Act.put, List.setIfInBounds_toArray, List.set_cons_zero, List.set_cons_succ]
            clear hH
            have cx_0 : w15.cell? ⟨w14.heap.size, 0, none⟩ = some (.bool false) := Blx.at 0 rfl
            have cx_1 : w15.cell? ⟨w14.heap.size, 1, none⟩ = some (.slice none 0 0) := Blx.at 1 rfl
            have cx_2 : w15.cell? ⟨w14.heap.size, 2, none⟩ = some (.slice none 0 0) := Blx.at 2 rfl
            have fx := Blx.free
            have Lx : w14.heap.size < w15.heap.size := Blx.lt
            refine U_last (by kernel_rfl) rfl (by kernel_rfl) (fun K hK => ?_)
            go_simp
            refine hK.out _ _ ?_
            clear hK K
            intro w16 hW
            have hG : Gr [w14.heap.size] w15 w16 := by rw [hW]; exact (Gr.refl _ _).set.set.set
            have hsz := hs.size
            have lx := Blx.lt
            have hbw : Below w.heap.size w15 w16 := hG.below1 hs.size (by first | omega | assumption)
            have hk : KeepD w15 w16 := hG.keep ⟨⟨_, Blx.ty, by decide⟩, True.intro⟩
            have Bl1x : Bx w16 (w14.heap.size) 40 #[.bool sh13, .slice ah13 nh13 ch13, .slice Ah13 Nh13 Ch13] := by rw [hW]; exact Blx.set3
            replace hs := hs.trans hbw
            replace h6 := h6.gr PC.kept hG (notMem1 (by omega)) hk
            replace Bldepth := hG.bx Bldepth (notMem1 (by omega))
            replace Blr := hG.bx Blr (notMem1 (by omega))
            replace Blk := hG.bx Blk (notMem1 (by omega))
            replace Blf := hG.bx Blf (notMem1 (by omega))
            replace Blx := Bl1x
            clear Bl1x
            replace h7a := h7a.keep hk
            replace h7b := h7b.keep hk
            replace h8a := h8a.keep hk
            replace h8b := h8b.keep hk
            replace h9 := h9.keep hk
            replace h10 := h10.keep hk
            replace h11 := h11.keep hk
            replace h12 := h12.keep hk
            replace h13 := h13.keep hk
            clear hW hG hk hbw hsz lx
            try simp only [Act.put, List.setIfInBounds_toArray, List.set_cons_zero, List.set_cons_succ]
            clear cr_0 cr_1 cr_2 cr_3 cr_4 cr_5 cf_0 cf_1 cf_2
            go_wp2_with fail
            go_meet
            exact ⟨w14.heap.size, _, _, _, _, _, _, _, rfl, (by first | exact sz_x | omega), (by omega), (by omega), (by omega), (by omega), (by omega), Blx, hs, Bldepth, Blr, Blk, Blf, h7a, h7b, h8a, h8b, h9, h13, h6⟩
          · clear hH
            go_simp
            generalize hWn : (w13.alloc (.cells #[.bool false, .slice none 0 0, .slice none 0 0] 40)) = w14
            have hb : Below w13.heap.size w13 w14 := by rw [← hWn]; exact (Below.refl _ _).alloc (Nat.le_refl _) _
            have Blx : Bx w14 (w13.heap.size) 40 #[.bool false, .slice none 0 0, .slice none 0 0] := by rw [← hWn]; exact Bx.new _ _ _
            have ndepth_x : w.heap.size ≠ w13.heap.size := by have := Bldepth.lt; omega
            have nr_x : w5.heap.size ≠ w13.heap.size := by have := Blr.lt; omega
            have nk_x : w5.heap.size + 1 ≠ w13.heap.size := by have := Blk.lt; omega
            have nf_x : w8.heap.size ≠ w13.heap.size := by have := Blf.lt; omega
            have nh6_x : bh6 < w13.heap.size := h6.lt (by omega)
            have sz_x : w.heap.size ≤ w13.heap.size := hs.size
            replace hs := bStep hs hb
            replace Bldepth := Bldepth.mono hb
            replace Blr := Blr.mono hb
            replace Blk := Blk.mono hb
            replace Blf := Blf.mono hb
            replace h7a := h7a.mono hb
            replace h7b := h7b.mono hb
            replace h8a := h8a.mono hb
            replace h8b := h8b.mono hb
            replace h9 := h9.mono hb
            replace h10 := h10.mono hb
            replace h11 := h11.mono hb
            replace h12 := h12.mono hb
            replace h6 := rowsPB _ _ _ h6 hb
            replace cr_0 := cellK cr_0 hb
            replace cr_1 := cellK cr_1 hb
            replace cr_2 := cellK cr_2 hb
            replace cr_3 := cellK cr_3 hb
            replace cr_4 := cellK cr_4 hb
            replace cr_5 := cellK cr_5 hb
            replace cf_0 := cellK cf_0 hb
            replace cf_1 := cellK cf_1 hb
            replace cf_2 := cellK cf_2 hb
            clear hb hWn
            refine hK.out _ _ ⟨cr_0, cr_1, cr_2, cr_3, cr_4, cr_5, cf_0, cf_1, cf_2⟩ (fun hH => ?_)
            clear hK K
            try simp only [Act.put, List.setIfInBounds_toArray, List.set_cons_zero, List.set_cons_succ]
            clear hH
            refine U_one (i := 6) (by kernel_rfl) rfl (fun K hK => ?_)
            go_simp
            (with_reducible refine (pAdd h10 h12 (SzQ.fit slo) (SzQ.fit (SzQ.mul (SzQ.sub shi slo) sf))).mono ?_)
            rintro e w15 ⟨_, rfl, h13, hb⟩
            obtain ⟨sh13, ah13, nh13, ch13, Ah13, Nh13, Ch13, rfl⟩ := h13.shape
            replace hs := bStep hs hb
            replace Bldepth := Bldepth.mono hb
            replace Blr := Blr.mono hb
            replace Blk := Blk.mono hb
            replace Blf := Blf.mono hb
            replace Blx := Blx.mono hb
            replace h7a := h7a.mono hb
            replace h7b := h7b.mono hb
            replace h8a := h8a.mono hb
            replace h8b := h8b.mono hb
            replace h9 := h9.mono hb
            replace h10 := h10.mono hb
            replace h11 := h11.mono hb
            replace h12 := h12.mono hb
            replace h6 := rowsPB _ _ _ h6 hb
            replace cr_0 := cellK cr_0 hb
            replace cr_1 := cellK cr_1 hb
            replace cr_2 := cellK cr_2 hb
            replace cr_3 := cellK cr_3 hb
            replace cr_4 := cellK cr_4 hb
            replace cr_5 := cellK cr_5 hb
            replace cf_0 := cellK cf_0 hb
            replace cf_1 := cellK cf_1 hb
            replace cf_2 := cellK cf_2 hb
            clear hb
            try go_wp2_with fail
            refine hK.out _ _ ⟨cr_0, cr_1, cr_2, cr_3, cr_4, cr_5, cf_0, cf_1, cf_2⟩ (fun hH => ?_)
            clear hK K
            try simp only [Act.put, List.setIfInBounds_toArray, List.set_cons_zero, List.set_cons_succ]
            clear hH
            have cx_0 : w15.cell? ⟨w13.heap.size, 0, none⟩ = some (.bool false) := Blx.at 0 rfl
            have cx_1 : w15.cell? ⟨w13.heap.size, 1, none⟩ = some (.slice none 0 0) := Blx.at 1 rfl
            have cx_2 : w15.cell? ⟨w13.heap.size, 2, none⟩ = some (.slice none 0 0) := Blx.at 2 rfl
            have fx := Blx.free
            have Lx : w13.heap.size < w15.heap.size := Blx.lt
            refine U_last (by kernel_rfl) rfl (by kernel_rfl) (fun K hK => ?_)
            go_simp
            refine hK.out _ _ ?_
            clear hK K
            intro w16 hW
            have hG : Gr [w13.heap.size] w15 w16 := by rw [hW]; exact (Gr.refl _ _).set.set.set
            have hsz := hs.size
            have lx := Blx.lt
            have hbw : Below w.heap.size w15 w16 := hG.below1 hs.size (by first | omega | assumption)
            have hk : KeepD w15 w16 := hG.keep ⟨⟨_, Blx.ty, by decide⟩, True.intro⟩
            have Bl1x : Bx w16 (w13.heap.size) 40 #[.bool sh13, .slice ah13 nh13 ch13, .slice Ah13 Nh13 Ch13] := by rw [hW]; exact Blx.set3
            replace hs := hs.trans hbw
            replace h6 := h6.gr PC.kept hG (notMem1 (by omega)) hk
            replace Bldepth := hG.bx Bldepth (notMem1 (by omega))
            replace Blr := hG.bx Blr (notMem1 (by omega))
            replace Blk := hG.bx Blk (notMem1 (by omega))
            replace Blf := hG.bx Blf (notMem1 (by omega))
            replace Blx := Bl1x
            clear Bl1x
            replace h7a := h7a.keep hk
            replace h7b := h7b.keep hk
            replace h8a := h8a.keep hk
            replace h8b := h8b.keep hk
            replace h9 := h9.keep hk
            replace h10 := h10.keep hk
            replace h11 := h11.keep hk
            replace h12 := h12.keep hk
            replace h13 := h13.keep hk
            clear hW hG hk hbw hsz lx
            try simp only [Act.put, List.setIfInBounds_toArray, List.set_cons_zero, List.set_cons_succ]
            clear cr_0 cr_1 cr_2 cr_3 cr_4 cr_5 cf_0 cf_1 cf_2
            go_wp2_with fail
            go_meet
            exact ⟨w13.heap.size, _, _, _, _, _, _, _, rfl, (by first | exact sz_x | omega), (by omega), (by omega), (by omega), (by omega), (by omega), Blx, hs, Bldepth, Blr, Blk, Blf, h7a, h7b, h8a, h8b, h9, h13, h6⟩
        · clear hH
          go_simp
          generalize hWn : (w12.alloc (.cells #[.bool false, .slice none 0 0, .slice none 0 0] 40)) = w13
          have hb : Below w12.heap.size w12 w13 := by rw [← hWn]; exact (Below.refl _ _).alloc (Nat.le_refl _) _
          have Blx : Bx w13 (w12.heap.size) 40 #[.bool false, .slice none 0 0, .slice none 0 0] := by rw [← hWn]; exact Bx.new _ _ _
          have ndepth_x : w.heap.size ≠ w12.heap.size := by have := Bldepth.lt; omega
          have nr_x : w5.heap.size ≠ w12.heap.size := by have := Blr.lt; omega
          have nk_x : w5.heap.size + 1 ≠ w12.heap.size := by have := Blk.lt; omega
          have nf_x : w8.heap.size ≠ w12.heap.size := by have := Blf.lt; omega
          have nh6_x : bh6 < w12.heap.size := h6.lt (by omega)
          have sz_x : w.heap.size ≤ w12.heap.size := hs.size
          replace hs := bStep hs hb
          replace Bldepth := Bldepth.mono hb
          replace Blr := Blr.mono hb
          replace Blk := Blk.mono hb
          replace Blf := Blf.mono hb
          replace h7a := h7a.mono hb
          replace h7b := h7b.mono hb
          replace h8a := h8a.mono hb
          replace h8b := h8b.mono hb
          replace h9 := h9.mono hb
          replace h10 := h10.mono hb
          replace h11 := h11.mono hb
          replace h6 := rowsPB _ _ _ h6 hb
          replace cr_0 := cellK cr_0 hb
          replace cr_1 := cellK cr_1 hb
          replace cr_2 := cellK cr_2 hb
          replace cr_3 := cellK cr_3 hb
          replace cr_4 := cellK cr_4 hb
          replace cr_5 := cellK cr_5 hb
          replace cf_0 := cellK cf_0 hb
          replace cf_1 := cellK cf_1 hb
          replace cf_2 := cellK cf_2 hb
          clear hb hWn
          refine hK.out _ _ ⟨cr_0, cr_1, cr_2, cr_3, cr_4, cr_5, cf_0, cf_1, cf_2⟩ (fun hH => ?_)
          clear hK K
          try simp only [Act.put, List.setIfInBounds_toArray, List.set_cons_zero, List.set_cons_succ]
          clear hH
          refine U_one (i := 5) (by kernel_rfl) rfl (fun K hK => ?_)
          go_simp
          (with_reducible refine (pMul h11 h9 (SzQ.fit (SzQ.sub shi slo)) (SzQ.fit sf)).mono ?_)
          rintro e w14 ⟨_, rfl, h12, hb⟩
          obtain ⟨sh12, ah12, nh12, ch12, Ah12, Nh12, Ch12, rfl⟩ := h12.shape
          replace hs := bStep hs hb
          replace Bldepth := Bldepth.mono hb
          replace Blr := Blr.mono hb
          replace Blk := Blk.mono hb
          replace Blf := Blf.mono hb
          replace Blx := Blx.mono hb
          replace h7a := h7a.mono hb
          replace h7b := h7b.mono hb
          replace h8a := h8a.mono hb
          replace h8b := h8b.mono hb
          replace h9 := h9.mono hb
          replace h10 := h10.mono hb
          replace h11 := h11.mono hb
          replace h6 := rowsPB _ _ _ h6 hb
          replace cr_0 := cellK cr_0 hb
          replace cr_1 := cellK cr_1 hb
          replace cr_2 := cellK cr_2 hb
          replace cr_3 := cellK cr_3 hb
          replace cr_4 := cellK cr_4 hb
          replace cr_5 := cellK cr_5 hb
          replace cf_0 := cellK cf_0 hb
          replace cf_1 := cellK cf_1 hb
          replace cf_2 := cellK cf_2 hb
          clear hb
          try go_wp2_with fail
          refine hK.out _ _ ⟨cr_0, cr_1, cr_2, cr_3, cr_4, cr_5, cf_0, cf_1, cf_2⟩ (fun hH => ?_)
          clear hK K
          try simp only [Act.put, List.setIfInBounds_toArray, List.set_cons_zero, List.set_cons_succ]
          clear hH
          refine U_one (i := 6) (by kernel_rfl) rfl (fun K hK => ?_)
          go_simp
          (with_reducible refine (pAdd h10 h12 (SzQ.fit slo) (SzQ.fit (SzQ.mul (SzQ.sub shi slo) sf))).mono ?_)
          rintro e w15 ⟨_, rfl, h13, hb⟩
          obtain ⟨sh13, ah13, nh13, ch13, Ah13, Nh13, Ch13, rfl⟩ := h13.shape
          replace hs := bStep hs hb
          replace Bldepth := Bldepth.mono hb
          replace Blr := Blr.mono hb
          replace Blk := Blk.mono hb
          replace Blf := Blf.mono hb
          replace Blx := Blx.mono hb
          replace h7a := h7a.mono hb
          replace h7b := h7b.mono hb
          replace h8a := h8a.mono hb
          replace h8b := h8b.mono hb
          replace h9 := h9.mono hb
          replace h10 := h10.mono hb
          replace h11 := h11.mono hb
          replace h12 := h12.mono hb
          replace h6 := rowsPB _ _ _ h6 hb
          replace cr_0 := cellK cr_0 hb
          replace cr_1 := cellK cr_1 hb
          replace cr_2 := cellK cr_2 hb
          replace cr_3 := cellK cr_3 hb
          replace cr_4 := cellK cr_4 hb
          replace cr_5 := cellK cr_5 hb
          replace cf_0 := cellK cf_0 hb
          replace cf_1 := cellK cf_1 hb
          replace cf_2 := cellK cf_2 hb
          clear hb
          try go_wp2_with fail
          refine hK.out _ _ ⟨cr_0, cr_1, cr_2, cr_3, cr_4, cr_5, cf_0, cf_1, cf_2⟩ (fun hH => ?_)
          clear hK K
          try simp only [Act.put, List.setIfInBounds_toArray, List.set_cons_zero, List.set_cons_succ]
          clear hH
          have cx_0 : w15.cell? ⟨w12.heap.size, 0, none⟩ = some (.bool false) := Blx.at 0 rfl
          have cx_1 : w15.cell? ⟨w12.heap.size, 1, none⟩ = some (.slice none 0 0) := Blx.at 1 rfl
          have cx_2 : w15.cell? ⟨w12.heap.size, 2, none⟩ = some (.slice none 0 0) := Blx.at 2 rfl
          have fx := Blx.free
          have Lx : w12.heap.size < w15.heap.size := Blx.lt
          refine U_last (by kernel_rfl) rfl (by kernel_rfl) (fun K hK => ?_)
          go_simp
          refine hK.out _ _ ?_
          clear hK K
          intro w16 hW
          have hG : Gr [w12.heap.size] w15 w16 := by rw [hW]; exact (Gr.refl _ _).set.set.set
          have hsz := hs.size
          have lx := Blx.lt
          have hbw : Below w.heap.size w15 w16 := hG.below1 hs.size (by first | omega | assumption)
          have hk : KeepD w15 w16 := hG.keep ⟨⟨_, Blx.ty, by decide⟩, True.intro⟩
          have Bl1x : Bx w16 (w12.heap.size) 40 #[.bool sh13, .slice ah13 nh13 ch13, .slice Ah13 Nh13 Ch13] := by rw [hW]; exact Blx.set3
          replace hs := hs.trans hbw
          replace h6 := h6.gr PC.kept hG (notMem1 (by omega)) hk
          replace Bldepth := hG.bx Bldepth (notMem1 (by omega))
          replace Blr := hG.bx Blr (notMem1 (by omega))
          replace Blk := hG.bx Blk (notMem1 (by omega))
          replace Blf := hG.bx Blf (notMem1 (by omega))
          replace Blx := Bl1x
          clear Bl1x
          replace h7a := h7a.keep hk
          replace h7b := h7b.keep hk
          replace h8a := h8a.keep hk
          replace h8b := h8b.keep hk
          replace h9 := h9.keep hk
          replace h10 := h10.keep hk
          replace h11 := h11.keep hk
          replace h12 := h12.keep hk
          replace h13 := h13.keep hk
          clear hW hG hk hbw hsz lx
          try simp only [Act.put, List.setIfInBounds_toArray, List.set_cons_zero, List.set_cons_succ]
          clear cr_0 cr_1 cr_2 cr_3 cr_4 cr_5 cf_0 cf_1 cf_2
          go_wp2_with fail
          go_meet
          exact ⟨w12.heap.size, _, _, _, _, _, _, _, rfl, (by first | exact sz_x | omega), (by omega), (by omega), (by omega), (by omega), (by omega), Blx, hs, Bldepth, Blr, Blk, Blf, h7a, h7b, h8a, h8b, h9, h13, h6⟩
      · clear hH
        go_simp
        generalize hWn : (w11.alloc (.cells #[.bool false, .slice none 0 0, .slice none 0 0] 40)) = w12
        have hb : Below w11.heap.size w11 w12 := by rw [← hWn]; exact (Below.refl _ _).alloc (Nat.le_refl _) _
        have Blx : Bx w12 (w11.heap.size) 40 #[.bool false, .slice none 0 0, .slice none 0 0] := by rw [← hWn]; exact Bx.new _ _ _
        have ndepth_x : w.heap.size ≠ w11.heap.size := by have := Bldepth.lt; omega
        have nr_x : w5.heap.size ≠ w11.heap.size := by have := Blr.lt; omega
        have nk_x : w5.heap.size + 1 ≠ w11.heap.size := by have := Blk.lt; omega
        have nf_x : w8.heap.size ≠ w11.heap.size := by have := Blf.lt; omega
        have nh6_x : bh6 < w11.heap.size := h6.lt (by omega)
        have sz_x : w.heap.size ≤ w11.heap.size := hs.size
        replace hs := bStep hs hb
        replace Bldepth := Bldepth.mono hb
        replace Blr := Blr.mono hb
        replace Blk := Blk.mono hb
        replace Blf := Blf.mono hb
        replace h7a := h7a.mono hb
        replace h7b := h7b.mono hb
        replace h8a := h8a.mono hb
        replace h8b := h8b.mono hb
        replace h9 := h9.mono hb
        replace h10 := h10.mono hb
        replace h6 := rowsPB _ _ _ h6 hb
        replace cr_0 := cellK cr_0 hb
        replace cr_1 := cellK cr_1 hb
        replace cr_2 := cellK cr_2 hb
        replace cr_3 := cellK cr_3 hb
        replace cr_4 := cellK cr_4 hb
        replace cr_5 := cellK cr_5 hb
        replace cf_0 := cellK cf_0 hb
        replace cf_1 := cellK cf_1 hb
        replace cf_2 := cellK cf_2 hb
        clear hb hWn
        refine hK.out _ _ ⟨cr_0, cr_1, cr_2, cr_3, cr_4, cr_5, cf_0, cf_1, cf_2⟩ (fun hH => ?_)
        clear hK K
        try simp only [Act.put, List.setIfInBounds_toArray, List.set_cons_zero, List.set_cons_succ]
        clear hH
        refine U_one (i := 3) (by kernel_rfl) rfl (fun K hK => ?_)
        go_simp
        (with_reducible refine (p_Width _ _ _ _ (PV2.mk h7a h7b) (SzQ.mid slo) (SzQ.mid shi)).mono ?_)
        rintro e w13 ⟨_, rfl, h11, hb⟩
        obtain ⟨sh11, ah11, nh11, ch11, Ah11, Nh11, Ch11, rfl⟩ := h11.shape
        replace hs := bStep hs hb
        replace Bldepth := Bldepth.mono hb
        replace Blr := Blr.mono hb
        replace Blk := Blk.mono hb
        replace Blf := Blf.mono hb
        replace Blx := Blx.mono hb
        replace h7a := h7a.mono hb
        replace h7b := h7b.mono hb
        replace h8a := h8a.mono hb
        replace h8b := h8b.mono hb
        replace h9 := h9.mono hb
        replace h10 := h10.mono hb
        replace h6 := rowsPB _ _ _ h6 hb
        replace cr_0 := cellK cr_0 hb
        replace cr_1 := cellK cr_1 hb
        replace cr_2 := cellK cr_2 hb
        replace cr_3 := cellK cr_3 hb
        replace cr_4 := cellK cr_4 hb
        replace cr_5 := cellK cr_5 hb
        replace cf_0 := cellK cf_0 hb
        replace cf_1 := cellK cf_1 hb
        replace cf_2 := cellK cf_2 hb
        clear hb
        try go_wp2_with fail
        refine hK.out _ _ ⟨cr_0, cr_1, cr_2, cr_3, cr_4, cr_5, cf_0, cf_1, cf_2⟩ (fun hH => ?_)
        clear hK K
        try simp only [Act.put, List.setIfInBounds_toArray, List.set_cons_zero, List.set_cons_succ]
        clear hH
        refine U_one (i := 5) (by kernel_rfl) rfl (fun K hK => ?_)
        go_simp
        (with_reducible refine (pMul h11 h9 (SzQ.fit (SzQ.sub shi slo)) (SzQ.fit sf)).mono ?_)
        rintro e w14 ⟨_, rfl, h12, hb⟩
        obtain ⟨sh12, ah12, nh12, ch12, Ah12, Nh12, Ch12, rfl⟩ := h12.shape
        replace hs := bStep hs hb
        replace Bldepth := Bldepth.mono hb
        replace Blr := Blr.mono hb
        replace Blk := Blk.mono hb
        replace Blf := Blf.mono hb
        replace Blx := Blx.mono hb
        replace h7a := h7a.mono hb
        replace h7b := h7b.mono hb
        replace h8a := h8a.mono hb
        replace h8b := h8b.mono hb
        replace h9 := h9.mono hb
        replace h10 := h10.mono hb
        replace h11 := h11.mono hb
        replace h6 := rowsPB _ _ _ h6 hb
        replace cr_0 := cellK cr_0 hb
        replace cr_1 := cellK cr_1 hb
        replace cr_2 := cellK cr_2 hb
        replace cr_3 := cellK cr_3 hb
        replace cr_4 := cellK cr_4 hb
        replace cr_5 := cellK cr_5 hb
        replace cf_0 := cellK cf_0 hb
        replace cf_1 := cellK cf_1 hb
        replace cf_2 := cellK cf_2 hb
        clear hb
        try go_wp2_with fail
        refine hK.out _ _ ⟨cr_0, cr_1, cr_2, cr_3, cr_4, cr_5, cf_0, cf_1, cf_2⟩ (fun hH => ?_)
        clear hK K
        try simp only [Act.put, List.setIfInBounds_toArray, List.set_cons_zero, List.set_cons_succ]
        clear hH
        refine U_one (i := 6) (by kernel_rfl) rfl (fun K hK => ?_)
        go_simp
        (with_reducible refine (pAdd h10 h12 (SzQ.fit slo) (SzQ.fit (SzQ.mul (SzQ.sub shi slo) sf))).mono ?_)
        rintro e w15 ⟨_, rfl, h13, hb⟩
        obtain ⟨sh13, ah13, nh13, ch13, Ah13, Nh13, Ch13, rfl⟩ := h13.shape
        replace hs := bStep hs hb
        replace Bldepth := Bldepth.mono hb
        replace Blr := Blr.mono hb
        replace Blk := Blk.mono hb
        replace Blf := Blf.mono hb
        replace Blx := Blx.mono hb
        replace h7a := h7a.mono hb
        replace h7b := h7b.mono hb
        replace h8a := h8a.mono hb
        replace h8b := h8b.mono hb
        replace h9 := h9.mono hb
        replace h10 := h10.mono hb
        replace h11 := h11.mono hb
        replace h12 := h12.mono hb
        replace h6 := rowsPB _ _ _ h6 hb
        replace cr_0 := cellK cr_0 hb
        replace cr_1 := cellK cr_1 hb
        replace cr_2 := cellK cr_2 hb
        replace cr_3 := cellK cr_3 hb
        replace cr_4 := cellK cr_4 hb
        replace cr_5 := cellK cr_5 hb
        replace cf_0 := cellK cf_0 hb
        replace cf_1 := cellK cf_1 hb
        replace cf_2 := cellK cf_2 hb
        clear hb
        try go_wp2_with fail
        refine hK.out _ _ ⟨cr_0, cr_1, cr_2, cr_3, cr_4, cr_5, cf_0, cf_1, cf_2⟩ (fun hH => ?_)
        clear hK K
        try simp only [Act.put, List.setIfInBounds_toArray, List.set_cons_zero, List.set_cons_succ]
        clear hH
        have cx_0 : w15.cell? ⟨w11.heap.size, 0, none⟩ = some (.bool false) := Blx.at 0 rfl
        have cx_1 : w15.cell? ⟨w11.heap.size, 1, none⟩ = some (.slice none 0 0) := Blx.at 1 rfl
        have cx_2 : w15.cell? ⟨w11.heap.size, 2, none⟩ = some (.slice none 0 0) := Blx.at 2 rfl
        have fx := Blx.free
        have Lx : w11.heap.size < w15.heap.size := Blx.lt
        refine U_last (by kernel_rfl) rfl (by kernel_rfl) (fun K hK => ?_)
        go_simp
        refine hK.out _ _ ?_
        clear hK K
        intro w16 hW
        have hG : Gr [w11.heap.size] w15 w16 := by rw [hW]; exact (Gr.refl _ _).set.set.set
        have hsz := hs.size
        have lx := Blx.lt
        have hbw : Below w.heap.size w15 w16 := hG.below1 hs.size (by first | omega | assumption)
        have hk : KeepD w15 w16 := hG.keep ⟨⟨_, Blx.ty, by decide⟩, True.intro⟩
        have Bl1x : Bx w16 (w11.heap.size) 40 #[.bool sh13, .slice ah13 nh13 ch13, .slice Ah13 Nh13 Ch13] := by rw [hW]; exact Blx.set3
        replace hs := hs.trans hbw
        replace h6 := h6.gr PC.kept hG (notMem1 (by omega)) hk
        replace Bldepth := hG.bx Bldepth (notMem1 (by omega))
        replace Blr := hG.bx Blr (notMem1 (by omega))
        replace Blk := hG.bx Blk (notMem1 (by omega))
        replace Blf := hG.bx Blf (notMem1 (by omega))
        replace Blx := Bl1x
        clear Bl1x
        replace h7a := h7a.keep hk
        replace h7b := h7b.keep hk
        replace h8a := h8a.keep hk
        replace h8b := h8b.keep hk
        replace h9 := h9.keep hk
        replace h10 := h10.keep hk
        replace h11 := h11.keep hk
        replace h12 := h12.keep hk
        replace h13 := h13.keep hk
        clear hW hG hk hbw hsz lx
        try simp only [Act.put, List.setIfInBounds_toArray, List.set_cons_zero, List.set_cons_succ]
        clear cr_0 cr_1 cr_2 cr_3 cr_4 cr_5 cf_0 cf_1 cf_2
        go_wp2_with fail
        go_meet
        exact ⟨w11.heap.size, _, _, _, _, _, _, _, rfl, (by first | exact sz_x | omega), (by omega), (by omega), (by omega), (by omega), (by omega), Blx, hs, Bldepth, Blr, Blk, Blf, h7a, h7b, h8a, h8b, h9, h13, h6⟩
    · clear hH
      go_simp
      generalize hWn : (w10.alloc (.cells #[.bool false, .slice none 0 0, .slice none 0 0] 40)) = w11
      have hb : Below w10.heap.size w10 w11 := by rw [← hWn]; exact (Below.refl _ _).alloc (Nat.le_refl _) _
      have Blx : Bx w11 (w10.heap.size) 40 #[.bool false, .slice none 0 0, .slice none 0 0] := by rw [← hWn]; exact Bx.new _ _ _
      have ndepth_x : w.heap.size ≠ w10.heap.size := by have := Bldepth.lt; omega
      have nr_x : w5.heap.size ≠ w10.heap.size := by have := Blr.lt; omega
      have nk_x : w5.heap.size + 1 ≠ w10.heap.size := by have := Blk.lt; omega
      have nf_x : w8.heap.size ≠ w10.heap.size := by have := Blf.lt; omega
      have nh6_x : bh6 < w10.heap.size := h6.lt (by omega)
      have sz_x : w.heap.size ≤ w10.heap.size := hs.size
      replace hs := bStep hs hb
      replace Bldepth := Bldepth.mono hb
      replace Blr := Blr.mono hb
      replace Blk := Blk.mono hb
      replace Blf := Blf.mono hb
      replace h7a := h7a.mono hb
      replace h7b := h7b.mono hb
      replace h8a := h8a.mono hb
      replace h8b := h8b.mono hb
      replace h9 := h9.mono hb
      replace h6 := rowsPB _ _ _ h6 hb
      replace cr_0 := cellK cr_0 hb
      replace cr_1 := cellK cr_1 hb
      replace cr_2 := cellK cr_2 hb
      replace cr_3 := cellK cr_3 hb
      replace cr_4 := cellK cr_4 hb
      replace cr_5 := cellK cr_5 hb
      replace cf_0 := cellK cf_0 hb
      replace cf_1 := cellK cf_1 hb
      replace cf_2 := cellK cf_2 hb
      clear hb hWn
      refine hK.out _ _ ⟨cr_0, cr_1, cr_2, cr_3, cr_4, cr_5, cf_0, cf_1, cf_2⟩ (fun hH => ?_)
      clear hK K
      try simp only [Act.put, List.setIfInBounds_toArray, List.set_cons_zero, List.set_cons_succ]
      clear hH
      refine U_one (i := 1) (by kernel_rfl) rfl (fun K hK => ?_)
      go_simp
      (with_reducible refine (p_Lo _ _ _ _ (PV2.mk h7a h7b)).mono ?_)
      rintro e w12 ⟨_, rfl, h10, hb⟩
      obtain ⟨sh10, ah10, nh10, ch10, Ah10, Nh10, Ch10, rfl⟩ := h10.shape
      replace hs := bStep hs hb
      replace Bldepth := Bldepth.mono hb
      replace Blr := Blr.mono hb
      replace Blk := Blk.mono hb
      replace Blf := Blf.mono hb
      replace Blx := Blx.mono hb
      replace h7a := h7a.mono hb
      replace h7b := h7b.mono hb
      replace h8a := h8a.mono hb
      replace h8b := h8b.mono hb
      replace h9 := h9.mono hb
      replace h6 := rowsPB _ _ _ h6 hb
      replace cr_0 := cellK cr_0 hb
      replace cr_1 := cellK cr_1 hb
      replace cr_2 := cellK cr_2 hb
      replace cr_3 := cellK cr_3 hb
      replace cr_4 := cellK cr_4 hb
      replace cr_5 := cellK cr_5 hb
      replace cf_0 := cellK cf_0 hb
      replace cf_1 := cellK cf_1 hb
      replace cf_2 := cellK cf_2 hb
      clear hb
      try go_wp2_with fail
      refine hK.out _ _ ⟨cr_0, cr_1, cr_2, cr_3, cr_4, cr_5, cf_0, cf_1, cf_2⟩ (fun hH => ?_)
      clear hK K
      try simp only [Act.put, List.setIfInBounds_toArray, List.set_cons_zero, List.set_cons_succ]
      clear hH
      refine U_one (i := 3) (by kernel_rfl) rfl (fun K hK => ?_)
      go_simp
      (with_reducible refine (p_Width _ _ _ _ (PV2.mk h7a h7b) (SzQ.mid slo) (SzQ.mid shi)).mono ?_)
      rintro e w13 ⟨_, rfl, h11, hb⟩
      obtain ⟨sh11, ah11, nh11, ch11, Ah11, Nh11, Ch11, rfl⟩ := h11.shape
      replace hs := bStep hs hb
      replace Bldepth := Bldepth.mono hb
      replace Blr := Blr.mono hb
      replace Blk := Blk.mono hb
      replace Blf := Blf.mono hb
      replace Blx := Blx.mono hb
      replace h7a := h7a.mono hb
      replace h7b := h7b.mono hb
      replace h8a := h8a.mono hb
      replace h8b := h8b.mono hb
      replace h9 := h9.mono hb
      replace h10 := h10.mono hb
      replace h6 := rowsPB _ _ _ h6 hb
      replace cr_0 := cellK cr_0 hb
      replace cr_1 := cellK cr_1 hb
      replace cr_2 := cellK cr_2 hb
      replace cr_3 := cellK cr_3 hb
      replace cr_4 := cellK cr_4 hb
      replace cr_5 := cellK cr_5 hb
      replace cf_0 := cellK cf_0 hb
      replace cf_1 := cellK cf_1 hb
      replace cf_2 := cellK cf_2 hb
      clear hb
      try go_wp2_with fail
      refine hK.out _ _ ⟨cr_0, cr_1, cr_2, cr_3, cr_4, cr_5, cf_0, cf_1, cf_2⟩ (fun hH => ?_)
      clear hK K
      try simp only [Act.put, List.setIfInBounds_toArray, List.set_cons_zero, List.set_cons_succ]
      clear hH
      refine U_one (i := 5) (by kernel_rfl) rfl (fun K hK => ?_)
      go_simp
      (with_reducible refine (pMul h11 h9 (SzQ.fit (SzQ.sub shi slo)) (SzQ.fit sf)).mono ?_)
      rintro e w14 ⟨_, rfl, h12, hb⟩
      obtain ⟨sh12, ah12, nh12, ch12, Ah12, Nh12, Ch12, rfl⟩ := h12.shape
      replace hs := bStep hs hb
      replace Bldepth := Bldepth.mono hb
      replace Blr := Blr.mono hb
      replace Blk := Blk.mono hb
      replace Blf := Blf.mono hb
      replace Blx := Blx.mono hb
      replace h7a := h7a.mono hb
      replace h7b := h7b.mono hb
      replace h8a := h8a.mono hb
      replace h8b := h8b.mono hb
      replace h9 := h9.mono hb
      replace h10 := h10.mono hb
      replace h11 := h11.mono hb
      replace h6 := rowsPB _ _ _ h6 hb
      replace cr_0 := cellK cr_0 hb
      replace cr_1 := cellK cr_1 hb
      replace cr_2 := cellK cr_2 hb
      replace cr_3 := cellK cr_3 hb
      replace cr_4 := cellK cr_4 hb
      replace cr_5 := cellK cr_5 hb
      replace cf_0 := cellK cf_0 hb
      replace cf_1 := cellK cf_1 hb
      replace cf_2 := cellK cf_2 hb
      clear hb
      try go_wp2_with fail
      refine hK.out _ _ ⟨cr_0, cr_1, cr_2, cr_3, cr_4, cr_5, cf_0, cf_1, cf_2⟩ (fun hH => ?_)
      clear hK K
      try simp only [Act.put, List.setIfInBounds_toArray, List.set_cons_zero, List.set_cons_succ]
      clear hH
      refine U_one (i := 6) (by kernel_rfl) rfl (fun K hK => ?_)
      go_simp
      (with_reducible refine (pAdd h10 h12 (SzQ.fit slo) (SzQ.fit (SzQ.mul (SzQ.sub shi slo) sf))).mono ?_)
      rintro e w15 ⟨_, rfl, h13, hb⟩
      obtain ⟨sh13, ah13, nh13, ch13, Ah13, Nh13, Ch13, rfl⟩ := h13.shape
      replace hs := bStep hs hb
      replace Bldepth := Bldepth.mono hb
      replace Blr := Blr.mono hb
      replace Blk := Blk.mono hb
      replace Blf := Blf.mono hb
      replace Blx := Blx.mono hb
      replace h7a := h7a.mono hb
      replace h7b := h7b.mono hb
      replace h8a := h8a.mono hb
      replace h8b := h8b.mono hb
      replace h9 := h9.mono hb
      replace h10 := h10.mono hb
      replace h11 := h11.mono hb
      replace h12 := h12.mono hb
      replace h6 := rowsPB _ _ _ h6 hb
      replace cr_0 := cellK cr_0 hb
      replace cr_1 := cellK cr_1 hb
      replace cr_2 := cellK cr_2 hb
      replace cr_3 := cellK cr_3 hb
      replace cr_4 := cellK cr_4 hb
      replace cr_5 := cellK cr_5 hb
      replace cf_0 := cellK cf_0 hb
      replace cf_1 := cellK cf_1 hb
      replace cf_2 := cellK cf_2 hb
      clear hb
      try go_wp2_with fail
      refine hK.out _ _ ⟨cr_0, cr_1, cr_2, cr_3, cr_4, cr_5, cf_0, cf_1, cf_2⟩ (fun hH => ?_)
      clear hK K
      try simp only [Act.put, List.setIfInBounds_toArray, List.set_cons_zero, List.set_cons_succ]
      clear hH
      have cx_0 : w15.cell? ⟨w10.heap.size, 0, none⟩ = some (.bool false) := Blx.at 0 rfl
      have cx_1 : w15.cell? ⟨w10.heap.size, 1, none⟩ = some (.slice none 0 0) := Blx.at 1 rfl
      have cx_2 : w15.cell? ⟨w10.heap.size, 2, none⟩ = some (.slice none 0 0) := Blx.at 2 rfl
      have fx := Blx.free
      have Lx : w10.heap.size < w15.heap.size := Blx.lt
      refine U_last (by kernel_rfl) rfl (by kernel_rfl) (fun K hK => ?_)
      go_simp
      refine hK.out _ _ ?_
      clear hK K
      intro w16 hW
      have hG : Gr [w10.heap.size] w15 w16 := by rw [hW]; exact (Gr.refl _ _).set.set.set
      have hsz := hs.size
      have lx := Blx.lt
      have hbw : Below w.heap.size w15 w16 := hG.below1 hs.size (by first | omega | assumption)
      have hk : KeepD w15 w16 := hG.keep ⟨⟨_, Blx.ty, by decide⟩, True.intro⟩
      have Bl1x : Bx w16 (w10.heap.size) 40 #[.bool sh13, .slice ah13 nh13 ch13, .slice Ah13 Nh13 Ch13] := by rw [hW]; exact Blx.set3
      replace hs := hs.trans hbw
      replace h6 := h6.gr PC.kept hG (notMem1 (by omega)) hk
      replace Bldepth := hG.bx Bldepth (notMem1 (by omega))
      replace Blr := hG.bx Blr (notMem1 (by omega))
      replace Blk := hG.bx Blk (notMem1 (by omega))
      replace Blf := hG.bx Blf (notMem1 (by omega))
      replace Blx := Bl1x
      clear Bl1x
      replace h7a := h7a.keep hk
      replace h7b := h7b.keep hk
      replace h8a := h8a.keep hk
      replace h8b := h8b.keep hk
      replace h9 := h9.keep hk
      replace h10 := h10.keep hk
      replace h11 := h11.keep hk
      replace h12 := h12.keep hk
      replace h13 := h13.keep hk
      clear hW hG hk hbw hsz lx
      try simp only [Act.put, List.setIfInBounds_toArray, List.set_cons_zero, List.set_cons_succ]
      clear cr_0 cr_1 cr_2 cr_3 cr_4 cr_5 cf_0 cf_1 cf_2
      go_wp2_with fail
      go_meet
      exact ⟨w10.heap.size, _, _, _, _, _, _, _, rfl, (by first | exact sz_x | omega), (by omega), (by omega), (by omega), (by omega), (by omega), Blx, hs, Bldepth, Blr, Blk, Blf, h7a, h7b, h8a, h8b, h9, h13, h6⟩
  case rest =>
    clear hs Bldepth Blr Blk Blf h7a h7b h8a h8b h9 h6
    obtain ⟨gx, sh13, ah13, nh13, ch13, Ah13, Nh13, Ch13, rfl, hg_x, ng_x_depth, ng_x_r, ng_x_k, ng_x_f, ngr_x_h6, Blx, hs, Bldepth, Blr, Blk, Blf, h7a, h7b, h8a, h8b, h9, h13, h6⟩ := hcut
    go_wp2
    refine Code.abs ?_
    intro w10 hW
    have hG : Gr [] wc w10 := by rw [hW]; exact (Gr.refl _ _).alloc
    have hbw : Below w.heap.size wc w10 := hG.below0 hs.size
    have hk : KeepD wc w10 := hG.keep True.intro
    have sz_w10 : w.heap.size ≤ wc.heap.size := hs.size
    have ndepth_w10 : w.heap.size < wc.heap.size := Bldepth.lt
    have nr_w10 : w5.heap.size < wc.heap.size := Blr.lt
    have nk_w10 : w5.heap.size + 1 < wc.heap.size := Blk.lt
    have nf_w10 : w8.heap.size < wc.heap.size := Blf.lt
    have nx_w10 : gx < wc.heap.size := Blx.lt
    have nh6_w10 : bh6 < wc.heap.size := h6.lt (by omega)
    have Bltop : Bx w10 (wc.heap.size) 40 #[.bool false, .slice none 0 0, .slice none 0 0] := by rw [hW]; exact (Bx.new0 _ _ _)
    replace hs := hs.trans hbw
    replace h6 := rowsPB _ _ _ h6 (hG.below0 (Nat.le_refl _))
    replace Bldepth := hG.bx Bldepth notMem0
    replace Blr := hG.bx Blr notMem0
    replace Blk := hG.bx Blk notMem0
    replace Blf := hG.bx Blf notMem0
    replace Blx := hG.bx Blx notMem0
    replace h7a := h7a.keep hk
    replace h7b := h7b.keep hk
    replace h8a := h8a.keep hk
    replace h8b := h8b.keep hk
    replace h9 := h9.keep hk
    replace h13 := h13.keep hk
    clear hW hG hk hbw
    have hz_w10 : wc.heap.size < w10.heap.size := Bltop.lt
    go_loopw [74] (fun s74 wq => ∃ k : Nat, k ≤ L.length ∧ s74 = .int .i64 k ∧ Below w.heap.size w wq ∧ Bx wq (w.heap.size) 83 #[.int .i64 n1, .int .i64 d1, .int .i64 n2, .int .i64 d2] ∧ Bx wq (w5.heap.size) 86 #[.bool sh7a, .slice ah7a nh7a ch7a, .slice Ah7a Nh7a Ch7a, .bool sh7b, .slice ah7b nh7b ch7b, .slice Ah7b Nh7b Ch7b] ∧ Bx wq (w5.heap.size + 1) 88 #[.bool sh8a, .slice ah8a nh8a ch8a, .slice Ah8a Nh8a Ch8a, .bool sh8b, .slice ah8b nh8b ch8b, .slice Ah8b Nh8b Ch8b] ∧ Bx wq (w8.heap.size) 40 #[.bool sh9, .slice ah9 nh9 ch9, .slice Ah9 Nh9 Ch9] ∧ Bx wq (gx) 40 #[.bool sh13, .slice ah13 nh13 ch13, .slice Ah13 Nh13 Ch13] ∧ PV wq (.agg #[.bool sh7a, .slice ah7a nh7a ch7a, .slice Ah7a Nh7a Ch7a]) (lo) ∧ PV wq (.agg #[.bool sh7b, .slice ah7b nh7b ch7b, .slice Ah7b Nh7b Ch7b]) (hi) ∧ RV wq (.agg #[.bool sh8a, .slice ah8a nh8a ch8a, .slice Ah8a Nh8a Ch8a]) (lo) ∧ RV wq (.agg #[.bool sh8b, .slice ah8b nh8b ch8b, .slice Ah8b Nh8b Ch8b]) (hi) ∧ PV wq (.agg #[.bool sh9, .slice ah9 nh9 ch9, .slice Ah9 Nh9 Ch9]) (f) ∧ PV wq (.agg #[.bool sh13, .slice ah13 nh13 ch13, .slice Ah13 Nh13 Ch13]) (lo + ((hi - lo) * f)) ∧ Rows 3 40 PC wq (.slice (some ⟨bh6, oh6, none⟩) L.length kh6) L ∧ BoxP wq (wc.heap.size) (topQ L k)) (fun s74 _ => L.length - (intOf s74).toNat)
    case atStart => exact ⟨0, Nat.zero_le _, rfl, hs, Bldepth, Blr, Blk, Blf, Blx, h7a, h7b, h8a, h8b, h9, h13, h6, ⟨_, _, _, _, _, _, _, Bltop, (PV.zero _)⟩⟩
    case round =>
      clear Bldepth Blr Blk Blf Blx Bltop h7a h7b h8a h8b h9 h13 h6 hs
      obtain ⟨k, k_le, rfl, hs, Bldepth, Blr, Blk, Blf, Blx, h7a, h7b, h8a, h8b, h9, h13, h6, ⟨sh14, ah14, nh14, ch14, Ah14, Nh14, Ch14, Bltop, h14⟩⟩ := hrel
      by_cases q15 : k < L.length
      · have q15d : ((k : Int) < (L.length : Int)) = True := eq_true (by omega)
        obtain ⟨ge16, ae16, ne16, ce16, Ae16, Ne16, De16, Ee160, Ee161, Ee162, he16, le16⟩ := rowP_at h6 (show k < L.length by omega)
        have ctop_0 : wr.cell? ⟨wc.heap.size, 0, none⟩ = some (.bool sh14) := Bltop.at 0 rfl
        have ctop_1 : wr.cell? ⟨wc.heap.size, 1, none⟩ = some (.slice ah14 nh14 ch14) := Bltop.at 1 rfl
        have ctop_2 : wr.cell? ⟨wc.heap.size, 2, none⟩ = some (.slice Ah14 Nh14 Ch14) := Bltop.at 2 rfl
        have Ltop : wc.heap.size < wr.heap.size := Bltop.lt
        go_wp2_with fail
        clear ctop_0 ctop_1 ctop_2 Ltop le16 Ee160 Ee161 Ee162
        refine Calls.abs ?_
        intro w31 hW
        have hG : Gr [] wr w31 := by rw [hW]; exact (Gr.refl _ _).alloc
        have hbw : Below w.heap.size wr w31 := hG.below0 hs.size
        have hk : KeepD wr w31 := hG.keep True.intro
        have sz_w31 : w.heap.size ≤ wr.heap.size := hs.size
        have ndepth_w31 : w.heap.size < wr.heap.size := Bldepth.lt
        have nr_w31 : w5.heap.size < wr.heap.size := Blr.lt
        have nk_w31 : w5.heap.size + 1 < wr.heap.size := Blk.lt
        have nf_w31 : w8.heap.size < wr.heap.size := Blf.lt
        have nx_w31 : gx < wr.heap.size := Blx.lt
        have ntop_w31 : wc.heap.size < wr.heap.size := Bltop.lt
        have nh6_w31 : bh6 < wr.heap.size := h6.lt (by omega)
        have Bly : Bx w31 (wr.heap.size) 40 #[.bool ge16, .slice ae16 ne16 ce16, .slice Ae16 Ne16 De16] := by rw [hW]; exact (Bx.new0 _ _ _)
        replace hs := hs.trans hbw
        replace h6 := rowsPB _ _ _ h6 (hG.below0 (Nat.le_refl _))
        replace Bldepth := hG.bx Bldepth notMem0
        replace Blr := hG.bx Blr notMem0
        replace Blk := hG.bx Blk notMem0
        replace Blf := hG.bx Blf notMem0
        replace Blx := hG.bx Blx notMem0
        replace Bltop := hG.bx Bltop notMem0
        replace h7a := h7a.keep hk
        replace h7b := h7b.keep hk
        replace h8a := h8a.keep hk
        replace h8b := h8b.keep hk
        replace h9 := h9.keep hk
        replace h13 := h13.keep hk
        replace h14 := h14.keep hk
        replace he16 := he16.keep hk
        clear hW hG hk hbw
        have hz_w31 : wr.heap.size < w31.heap.size := Bly.lt
        with_reducible refine (pAdd h14 he16 (SzQ.fit (HTM.out k (by omega))) (SzQ.fit (HZ1.out k (by omega)))).mono ?_
        rintro e w32 ⟨_, rfl, h17, hb⟩
        obtain ⟨sh17, ah17, nh17, ch17, Ah17, Nh17, Ch17, rfl⟩ := h17.shape
        replace hs := bStep hs hb
        replace Bldepth := Bldepth.mono hb
        replace Blr := Blr.mono hb
        replace Blk := Blk.mono hb
        replace Blf := Blf.mono hb
        replace Blx := Blx.mono hb
        replace Bltop := Bltop.mono hb
        replace Bly := Bly.mono hb
        replace h7a := h7a.mono hb
        replace h7b := h7b.mono hb
        replace h8a := h8a.mono hb
        replace h8b := h8b.mono hb
        replace h9 := h9.mono hb
        replace h13 := h13.mono hb
        replace h14 := h14.mono hb
        replace he16 := he16.mono hb
        replace h6 := rowsPB _ _ _ h6 hb
        clear hb
        have ctop_0 : w32.cell? ⟨wc.heap.size, 0, none⟩ = some (.bool sh14) := Bltop.at 0 rfl
        have ctop_1 : w32.cell? ⟨wc.heap.size, 1, none⟩ = some (.slice ah14 nh14 ch14) := Bltop.at 1 rfl
        have ctop_2 : w32.cell? ⟨wc.heap.size, 2, none⟩ = some (.slice Ah14 Nh14 Ch14) := Bltop.at 2 rfl
        have Ltop : wc.heap.size < w32.heap.size := Bltop.lt
        have cx_0 : w32.cell? ⟨gx, 0, none⟩ = some (.bool sh13) := Blx.at 0 rfl
        have cx_1 : w32.cell? ⟨gx, 1, none⟩ = some (.slice ah13 nh13 ch13) := Blx.at 1 rfl
        have cx_2 : w32.cell? ⟨gx, 2, none⟩ = some (.slice Ah13 Nh13 Ch13) := Blx.at 2 rfl
        have Lx : gx < w32.heap.size := Blx.lt
        go_wp2_with fail
        clear ctop_0 ctop_1 ctop_2 cx_0 cx_1 cx_2 Ltop Lx
        refine Calls.abs ?_
        intro w33 hW
        have hG : Gr [] w32 w33 := by rw [hW]; exact (Gr.refl _ _).alloc
        have hbw : Below w.heap.size w32 w33 := hG.below0 hs.size
        have hk : KeepD w32 w33 := hG.keep True.intro
        have sz_w33 : w.heap.size ≤ w32.heap.size := hs.size
        have ndepth_w33 : w.heap.size < w32.heap.size := Bldepth.lt
        have nr_w33 : w5.heap.size < w32.heap.size := Blr.lt
        have nk_w33 : w5.heap.size + 1 < w32.heap.size := Blk.lt
        have nf_w33 : w8.heap.size < w32.heap.size := Blf.lt
        have nx_w33 : gx < w32.heap.size := Blx.lt
        have ntop_w33 : wc.heap.size < w32.heap.size := Bltop.lt
        have ny_w33 : wr.heap.size < w32.heap.size := Bly.lt
        have nh6_w33 : bh6 < w32.heap.size := h6.lt (by omega)
        have Blbottom : Bx w33 (w32.heap.size) 40 #[.bool sh17, .slice ah17 nh17 ch17, .slice Ah17 Nh17 Ch17] := by rw [hW]; exact (Bx.new0 _ _ _)
        replace hs := hs.trans hbw
        replace h6 := rowsPB _ _ _ h6 (hG.below0 (Nat.le_refl _))
        replace Bldepth := hG.bx Bldepth notMem0
        replace Blr := hG.bx Blr notMem0
        replace Blk := hG.bx Blk notMem0
        replace Blf := hG.bx Blf notMem0
        replace Blx := hG.bx Blx notMem0
        replace Bltop := hG.bx Bltop notMem0
        replace Bly := hG.bx Bly notMem0
        replace h7a := h7a.keep hk
        replace h7b := h7b.keep hk
        replace h8a := h8a.keep hk
        replace h8b := h8b.keep hk
        replace h9 := h9.keep hk
        replace h13 := h13.keep hk
        replace h14 := h14.keep hk
        replace he16 := he16.keep hk
        replace h17 := h17.keep hk
        clear hW hG hk hbw
        have hz_w33 : w32.heap.size < w33.heap.size := Blbottom.lt
        with_reducible refine (pCmp h14 h13 (SzQ.fit (HTM.out k (by omega))) (SzQ.fit (SzQ.add slo (SzQ.mul (SzQ.sub shi slo) sf)))).mono ?_
        rintro e w34 ⟨rfl, hb⟩
        replace hs := bStep hs hb
        replace Bldepth := Bldepth.mono hb
        replace Blr := Blr.mono hb
        replace Blk := Blk.mono hb
        replace Blf := Blf.mono hb
        replace Blx := Blx.mono hb
        replace Bltop := Bltop.mono hb
        replace Bly := Bly.mono hb
        replace Blbottom := Blbottom.mono hb
        replace h7a := h7a.mono hb
        replace h7b := h7b.mono hb
        replace h8a := h8a.mono hb
        replace h8b := h8b.mono hb
        replace h9 := h9.mono hb
        replace h13 := h13.mono hb
        replace h14 := h14.mono hb
        replace he16 := he16.mono hb
        replace h17 := h17.mono hb
        replace h6 := rowsPB _ _ _ h6 hb
        clear hb
        obtain ⟨sg18, Hsg18⟩ : ∃ s : Int, s = sgQ ((topQ L k) - (lo + ((hi - lo) * f))) := ⟨_, rfl⟩
        rw [← Hsg18]
        replace Hsg18 := Lib.hid Hsg18
        by_cases q19 : topQ L k ≤ lo + ((hi - lo) * f)
        · have q19_ : sg18 ≤ 0 := by have h := sq_le (topQ L k) (lo + ((hi - lo) * f)); rw [← Hsg18.out] at h; exact h.2 q19
          have q19H := Lib.hid q19
          clear q19
          have q19d : decide (sg18 ≤ 0) = true := decide_eq_true q19_
          have cx_0 : w34.cell? ⟨gx, 0, none⟩ = some (.bool sh13) := Blx.at 0 rfl
          have cx_1 : w34.cell? ⟨gx, 1, none⟩ = some (.slice ah13 nh13 ch13) := Blx.at 1 rfl
          have cx_2 : w34.cell? ⟨gx, 2, none⟩ = some (.slice Ah13 Nh13 Ch13) := Blx.at 2 rfl
          have Lx : gx < w34.heap.size := Blx.lt
          have cbottom_0 : w34.cell? ⟨w32.heap.size, 0, none⟩ = some (.bool sh17) := Blbottom.at 0 rfl
          have cbottom_1 : w34.cell? ⟨w32.heap.size, 1, none⟩ = some (.slice ah17 nh17 ch17) := Blbottom.at 1 rfl
          have cbottom_2 : w34.cell? ⟨w32.heap.size, 2, none⟩ = some (.slice Ah17 Nh17 Ch17) := Blbottom.at 2 rfl
          have Lbottom : w32.heap.size < w34.heap.size := Blbottom.lt
          go_wp2_with fail
          clear cx_0 cx_1 cx_2 cbottom_0 cbottom_1 cbottom_2 Lx Lbottom
          with_reducible refine (pCmp h13 h17 (SzQ.fit (SzQ.add slo (SzQ.mul (SzQ.sub shi slo) sf))) (SzQ.fit (SzQ.add (HTM.out k (by omega)) (HZ1.out k (by omega))))).mono ?_
          rintro e w35 ⟨rfl, hb⟩
          replace hs := bStep hs hb
          replace Bldepth := Bldepth.mono hb
          replace Blr := Blr.mono hb
          replace Blk := Blk.mono hb
          replace Blf := Blf.mono hb
          replace Blx := Blx.mono hb
          replace Bltop := Bltop.mono hb
          replace Bly := Bly.mono hb
          replace Blbottom := Blbottom.mono hb
          replace h7a := h7a.mono hb
          replace h7b := h7b.mono hb
          replace h8a := h8a.mono hb
          replace h8b := h8b.mono hb
          replace h9 := h9.mono hb
          replace h13 := h13.mono hb
          replace h14 := h14.mono hb
          replace he16 := he16.mono hb
          replace h17 := h17.mono hb
          replace h6 := rowsPB _ _ _ h6 hb
          clear hb
          obtain ⟨sg20, Hsg20⟩ : ∃ s : Int, s = sgQ ((lo + ((hi - lo) * f)) - (topQ L k + nthQ L k)) := ⟨_, rfl⟩
          rw [← Hsg20]
          replace Hsg20 := Lib.hid Hsg20
          by_cases q21 : lo + ((hi - lo) * f) ≤ topQ L k + nthQ L k
          · have q21_ : sg20 ≤ 0 := by have h := sq_le (lo + ((hi - lo) * f)) (topQ L k + nthQ L k); rw [← Hsg20.out] at h; exact h.2 q21
            have q21H := Lib.hid q21
            clear q21
            have q21d : decide (sg20 ≤ 0) = true := decide_eq_true q21_
            have q22 : ¬ ((k : Int) < fv) := by have := (plF_hit (hit_of HX1.out HX2.out q19H.out q21H.out) L.length (by omega)).2; rw [HFV.out] at this; omega
            have q22d : ((k : Int) < fv) = False := eq_false (by omega)
            have q23 : ¬ (gv < (k : Int)) := by have := plL_hit (hit_of HX1.out HX2.out q19H.out q21H.out) L.length (by omega); rw [HGV.out] at this; omega
            have q23d : (gv < (k : Int)) = False := eq_false (by omega)
            have cbottom_0 : w35.cell? ⟨w32.heap.size, 0, none⟩ = some (.bool sh17) := Blbottom.at 0 rfl
            have cbottom_1 : w35.cell? ⟨w32.heap.size, 1, none⟩ = some (.slice ah17 nh17 ch17) := Blbottom.at 1 rfl
            have cbottom_2 : w35.cell? ⟨w32.heap.size, 2, none⟩ = some (.slice Ah17 Nh17 Ch17) := Blbottom.at 2 rfl
            have Lbottom : w32.heap.size < w35.heap.size := Blbottom.lt
            have ctop_0 : w35.cell? ⟨wc.heap.size, 0, none⟩ = some (.bool sh14) := Bltop.at 0 rfl
            have ctop_1 : w35.cell? ⟨wc.heap.size, 1, none⟩ = some (.slice ah14 nh14 ch14) := Bltop.at 1 rfl
            have ctop_2 : w35.cell? ⟨wc.heap.size, 2, none⟩ = some (.slice Ah14 Nh14 Ch14) := Bltop.at 2 rfl
            have ftop := Bltop.free
            have Ltop : wc.heap.size < w35.heap.size := Bltop.lt
            go_upto_region 18 with fail
            clear cbottom_0 cbottom_1 cbottom_2 ctop_0 ctop_1 ctop_2 ftop Lbottom Ltop
            refine Code.abs ?_
            intro w36 hW
            have hG : Gr [wc.heap.size] w35 w36 := by rw [hW]; exact (Gr.refl _ _).set.set.set
            have hsz := hs.size
            have ltop := Bltop.lt
            have hbw : Below w.heap.size w35 w36 := hG.below1 hs.size (by first | omega | assumption)
            have hk : KeepD w35 w36 := hG.keep ⟨⟨_, Bltop.ty, by decide⟩, True.intro⟩
            have Bl1top : Bx w36 (wc.heap.size) 40 #[.bool sh17, .slice ah17 nh17 ch17, .slice Ah17 Nh17 Ch17] := by rw [hW]; exact Bltop.set3
            replace hs := hs.trans hbw
            replace h6 := h6.gr PC.kept hG (notMem1 (by omega)) hk
            replace Bldepth := hG.bx Bldepth (notMem1 (by omega))
            replace Blr := hG.bx Blr (notMem1 (by omega))
            replace Blk := hG.bx Blk (notMem1 (by omega))
            replace Blf := hG.bx Blf (notMem1 (by omega))
            replace Blx := hG.bx Blx (notMem1 (by omega))
            replace Bly := hG.bx Bly (notMem1 (by omega))
            replace Blbottom := hG.bx Blbottom (notMem1 (by omega))
            replace Bltop := Bl1top
            clear Bl1top
            replace h7a := h7a.keep hk
            replace h7b := h7b.keep hk
            replace h8a := h8a.keep hk
            replace h8b := h8b.keep hk
            replace h9 := h9.keep hk
            replace h13 := h13.keep hk
            replace h14 := h14.keep hk
            replace he16 := he16.keep hk
            replace h17 := h17.keep hk
            clear hW hG hk hbw hsz ltop
            go_wp2
            go_roundw
            case rel => exact ⟨k + 1, by omega, by go_num, hs, Bldepth, Blr, Blk, Blf, Blx, h7a, h7b, h8a, h8b, h9, h13, h6, ⟨_, _, _, _, _, _, _, Bltop, h17.of_eq rfl⟩⟩
            all_goals first | (simp [intOf]; done) | (simp [intOf]; omega)
          · have q21_ : ¬ (sg20 ≤ 0) := by have h := sq_le (lo + ((hi - lo) * f)) (topQ L k + nthQ L k); rw [← Hsg20.out] at h; exact fun h1 => q21 (h.1 h1)
            have q21H := Lib.hid q21
            clear q21
            have q21d : decide (sg20 ≤ 0) = false := decide_eq_false q21_
            have cbottom_0 : w35.cell? ⟨w32.heap.size, 0, none⟩ = some (.bool sh17) := Blbottom.at 0 rfl
            have cbottom_1 : w35.cell? ⟨w32.heap.size, 1, none⟩ = some (.slice ah17 nh17 ch17) := Blbottom.at 1 rfl
            have cbottom_2 : w35.cell? ⟨w32.heap.size, 2, none⟩ = some (.slice Ah17 Nh17 Ch17) := Blbottom.at 2 rfl
            have Lbottom : w32.heap.size < w35.heap.size := Blbottom.lt
            have ctop_0 : w35.cell? ⟨wc.heap.size, 0, none⟩ = some (.bool sh14) := Bltop.at 0 rfl
            have ctop_1 : w35.cell? ⟨wc.heap.size, 1, none⟩ = some (.slice ah14 nh14 ch14) := Bltop.at 1 rfl
            have ctop_2 : w35.cell? ⟨wc.heap.size, 2, none⟩ = some (.slice Ah14 Nh14 Ch14) := Bltop.at 2 rfl
            have ftop := Bltop.free
            have Ltop : wc.heap.size < w35.heap.size := Bltop.lt
            go_upto_region 18 with fail
            clear cbottom_0 cbottom_1 cbottom_2 ctop_0 ctop_1 ctop_2 ftop Lbottom Ltop
            refine Code.abs ?_
            intro w36 hW
            have hG : Gr [wc.heap.size] w35 w36 := by rw [hW]; exact (Gr.refl _ _).set.set.set
            have hsz := hs.size
            have ltop := Bltop.lt
            have hbw : Below w.heap.size w35 w36 := hG.below1 hs.size (by first | omega | assumption)
            have hk : KeepD w35 w36 := hG.keep ⟨⟨_, Bltop.ty, by decide⟩, True.intro⟩
            have Bl1top : Bx w36 (wc.heap.size) 40 #[.bool sh17, .slice ah17 nh17 ch17, .slice Ah17 Nh17 Ch17] := by rw [hW]; exact Bltop.set3
            replace hs := hs.trans hbw
            replace h6 := h6.gr PC.kept hG (notMem1 (by omega)) hk
            replace Bldepth := hG.bx Bldepth (notMem1 (by omega))
            replace Blr := hG.bx Blr (notMem1 (by omega))
            replace Blk := hG.bx Blk (notMem1 (by omega))
            replace Blf := hG.bx Blf (notMem1 (by omega))
            replace Blx := hG.bx Blx (notMem1 (by omega))
            replace Bly := hG.bx Bly (notMem1 (by omega))
            replace Blbottom := hG.bx Blbottom (notMem1 (by omega))
            replace Bltop := Bl1top
            clear Bl1top
            replace h7a := h7a.keep hk
            replace h7b := h7b.keep hk
            replace h8a := h8a.keep hk
            replace h8b := h8b.keep hk
            replace h9 := h9.keep hk
            replace h13 := h13.keep hk
            replace h14 := h14.keep hk
            replace he16 := he16.keep hk
            replace h17 := h17.keep hk
            clear hW hG hk hbw hsz ltop
            go_wp2
            go_roundw
            case rel => exact ⟨k + 1, by omega, by go_num, hs, Bldepth, Blr, Blk, Blf, Blx, h7a, h7b, h8a, h8b, h9, h13, h6, ⟨_, _, _, _, _, _, _, Bltop, h17.of_eq rfl⟩⟩
            all_goals first | (simp [intOf]; done) | (simp [intOf]; omega)
        · have q19_ : ¬ (sg18 ≤ 0) := by have h := sq_le (topQ L k) (lo + ((hi - lo) * f)); rw [← Hsg18.out] at h; exact fun h1 => q19 (h.1 h1)
          have q19H := Lib.hid q19
          clear q19
          have q19d : decide (sg18 ≤ 0) = false := decide_eq_false q19_
          have cbottom_0 : w34.cell? ⟨w32.heap.size, 0, none⟩ = some (.bool sh17) := Blbottom.at 0 rfl
          have cbottom_1 : w34.cell? ⟨w32.heap.size, 1, none⟩ = some (.slice ah17 nh17 ch17) := Blbottom.at 1 rfl
          have cbottom_2 : w34.cell? ⟨w32.heap.size, 2, none⟩ = some (.slice Ah17 Nh17 Ch17) := Blbottom.at 2 rfl
          have Lbottom : w32.heap.size < w34.heap.size := Blbottom.lt
          have ctop_0 : w34.cell? ⟨wc.heap.size, 0, none⟩ = some (.bool sh14) := Bltop.at 0 rfl
          have ctop_1 : w34.cell? ⟨wc.heap.size, 1, none⟩ = some (.slice ah14 nh14 ch14) := Bltop.at 1 rfl
          have ctop_2 : w34.cell? ⟨wc.heap.size, 2, none⟩ = some (.slice Ah14 Nh14 Ch14) := Bltop.at 2 rfl
          have ftop := Bltop.free
          have Ltop : wc.heap.size < w34.heap.size := Bltop.lt
          go_upto_region 18 with fail
          clear cbottom_0 cbottom_1 cbottom_2 ctop_0 ctop_1 ctop_2 ftop Lbottom Ltop
          refine Code.abs ?_
          intro w35 hW
          have hG : Gr [wc.heap.size] w34 w35 := by rw [hW]; exact (Gr.refl _ _).set.set.set
          have hsz := hs.size
          have ltop := Bltop.lt
          have hbw : Below w.heap.size w34 w35 := hG.below1 hs.size (by first | omega | assumption)
          have hk : KeepD w34 w35 := hG.keep ⟨⟨_, Bltop.ty, by decide⟩, True.intro⟩
          have Bl1top : Bx w35 (wc.heap.size) 40 #[.bool sh17, .slice ah17 nh17 ch17, .slice Ah17 Nh17 Ch17] := by rw [hW]; exact Bltop.set3
          replace hs := hs.trans hbw
          replace h6 := h6.gr PC.kept hG (notMem1 (by omega)) hk
          replace Bldepth := hG.bx Bldepth (notMem1 (by omega))
          replace Blr := hG.bx Blr (notMem1 (by omega))
          replace Blk := hG.bx Blk (notMem1 (by omega))
          replace Blf := hG.bx Blf (notMem1 (by omega))
          replace Blx := hG.bx Blx (notMem1 (by omega))
          replace Bly := hG.bx Bly (notMem1 (by omega))
          replace Blbottom := hG.bx Blbottom (notMem1 (by omega))
          replace Bltop := Bl1top
          clear Bl1top
          replace h7a := h7a.keep hk
          replace h7b := h7b.keep hk
          replace h8a := h8a.keep hk
          replace h8b := h8b.keep hk
          replace h9 := h9.keep hk
          replace h13 := h13.keep hk
          replace h14 := h14.keep hk
          replace he16 := he16.keep hk
          replace h17 := h17.keep hk
          clear hW hG hk hbw hsz ltop
          go_wp2
          go_roundw
          case rel => exact ⟨k + 1, by omega, by go_num, hs, Bldepth, Blr, Blk, Blf, Blx, h7a, h7b, h8a, h8b, h9, h13, h6, ⟨_, _, _, _, _, _, _, Bltop, h17.of_eq rfl⟩⟩
          all_goals first | (simp [intOf]; done) | (simp [intOf]; omega)
      · have q15d : ((k : Int) < (L.length : Int)) = False := eq_false (by omega)
        go_wp2_with fail
        with_reducible refine (HAW.out _).mono ?_
        rintro e w31 ⟨rfl, hb⟩
        replace hs := bStep hs hb
        replace Bldepth := Bldepth.mono hb
        replace Blr := Blr.mono hb
        replace Blk := Blk.mono hb
        replace Blf := Blf.mono hb
        replace Blx := Blx.mono hb
        replace Bltop := Bltop.mono hb
        replace h7a := h7a.mono hb
        replace h7b := h7b.mono hb
        replace h8a := h8a.mono hb
        replace h8b := h8b.mono hb
        replace h9 := h9.mono hb
        replace h13 := h13.mono hb
        replace h14 := h14.mono hb
        replace h6 := rowsPB _ _ _ h6 hb
        clear hb
        go_wp2
        go_ret
        exact ⟨rfl, hs⟩

set_option maxRecDepth 100000 in
set_option maxHeartbeats 4000000 in
theorem l7_ScanPlies_bad1 (hAw : ∀ w : World, Calls Tryz.prog 12 #[] w (RetV w (.bool true))) (v : Value) (l : List (Int × Int)) (n1 d1 n2 d2 p : Int) (w : World) (hl : RowsI 2 FC w v l) (a1 : ¬ l.all shortF = true) :
    Calls Tryz.prog 6 #[v, .agg #[.int .i64 n1, .int .i64 d1, .int .i64 n2, .int .i64 d2], .int .u8 p] w (RetV w (.bool true)) := by
  obtain ⟨ao, cap, rfl, hc1, hc2, hc3⟩ := hl.slice
  have hs := Below.refl w.heap.size w
  have HAW := Lib.hid hAw
  have HL := Lib.hid hl
  have HSL := Lib.hid a1
  clear a1
  clear hAw hl
  go_enter Tryz.func6, Tryz.ntmps6
  go_wp2_with fail
  refine Calls.abs ?_
  intro w1 hW
  have hG : Gr [] w w1 := by rw [hW]; exact (Gr.refl _ _).alloc
  have hbw : Below w.heap.size w w1 := hG.below0 hs.size
  have hk : KeepD w w1 := hG.keep True.intro
  have sz_w1 : w.heap.size ≤ w.heap.size := hs.size
  have Bldepth : Bx w1 (w.heap.size) 83 #[.int .i64 n1, .int .i64 d1, .int .i64 n2, .int .i64 d2] := by rw [hW]; exact (Bx.new0 _ _ _)
  replace hs := hs.trans hbw
  clear hW hG hk hbw
  have hz_w1 : w.heap.size < w1.heap.size := Bldepth.lt
  with_reducible refine (l7_short _ l _ (HL.out.mono FC.kept hs)).mono ?_
  rintro e w2 ⟨rfl, hb⟩
  replace hs := bStep hs hb
  replace Bldepth := Bldepth.mono hb
  clear hb
  obtain ⟨b1, Hb1⟩ : ∃ b : Bool, b = l.all shortF := ⟨_, rfl⟩
  rw [← Hb1]
  replace Hb1 := Lib.hid Hb1
  have q2 : ¬ (l.all shortF = true) := HSL.out
  obtain rfl : b1 = false := by rw [Hb1.out]; simpa using q2
  have q2H := Lib.hid q2
  clear q2
  go_wp2_with fail
  with_reducible refine (HAW.out _).mono ?_
  rintro e w3 ⟨rfl, hb⟩
  replace hs := bStep hs hb
  replace Bldepth := Bldepth.mono hb
  clear hb
  go_wp2
  go_ret
  exact ⟨rfl, hs⟩

set_option maxRecDepth 100000 in
set_option maxHeartbeats 4000000 in
theorem l7_ScanPlies_bad2 (hAw : ∀ w : World, Calls Tryz.prog 12 #[] w (RetV w (.bool true))) (v : Value) (l : List (Int × Int)) (n1 d1 n2 d2 p : Int) (w : World) (hl : RowsI 2 FC w v l) (a1 : l.all shortF = true) (a2 : ¬ [(n1, d1), (n2, d2)].all shortF = true) :
    Calls Tryz.prog 6 #[v, .agg #[.int .i64 n1, .int .i64 d1, .int .i64 n2, .int .i64 d2], .int .u8 p] w (RetV w (.bool true)) := by
  obtain ⟨ao, cap, rfl, hc1, hc2, hc3⟩ := hl.slice
  have hs := Below.refl w.heap.size w
  have HAW := Lib.hid hAw
  have HL := Lib.hid hl
  have HSL := Lib.hid a1
  have HS3 := Lib.hid a2
  clear a1 a2
  clear hAw hl
  go_enter Tryz.func6, Tryz.ntmps6
  go_wp2_with fail
  refine Calls.abs ?_
  intro w1 hW
  have hG : Gr [] w w1 := by rw [hW]; exact (Gr.refl _ _).alloc
  have hbw : Below w.heap.size w w1 := hG.below0 hs.size
  have hk : KeepD w w1 := hG.keep True.intro
  have sz_w1 : w.heap.size ≤ w.heap.size := hs.size
  have Bldepth : Bx w1 (w.heap.size) 83 #[.int .i64 n1, .int .i64 d1, .int .i64 n2, .int .i64 d2] := by rw [hW]; exact (Bx.new0 _ _ _)
  replace hs := hs.trans hbw
  clear hW hG hk hbw
  have hz_w1 : w.heap.size < w1.heap.size := Bldepth.lt
  with_reducible refine (l7_short _ l _ (HL.out.mono FC.kept hs)).mono ?_
  rintro e w2 ⟨rfl, hb⟩
  replace hs := bStep hs hb
  replace Bldepth := Bldepth.mono hb
  clear hb
  obtain ⟨b1, Hb1⟩ : ∃ b : Bool, b = l.all shortF := ⟨_, rfl⟩
  rw [← Hb1]
  replace Hb1 := Lib.hid Hb1
  have q2 : l.all shortF = true := HSL.out
  obtain rfl : b1 = true := by rw [Hb1.out]; exact q2
  have q2H := Lib.hid q2
  clear q2
  go_wp2_with fail
  with_reducible refine (l7_short _ [(n1, d1), (n2, d2)] _ (rowsF2 Bldepth)).mono ?_
  rintro e w3 ⟨rfl, hb⟩
  replace hs := bStep hs hb
  replace Bldepth := Bldepth.mono hb
  clear hb
  obtain ⟨b3, Hb3⟩ : ∃ b : Bool, b = [(n1, d1), (n2, d2)].all shortF := ⟨_, rfl⟩
  rw [← Hb3]
  replace Hb3 := Lib.hid Hb3
  have q4 : ¬ ([(n1, d1), (n2, d2)].all shortF = true) := HS3.out
  obtain rfl : b3 = false := by rw [Hb3.out]; simpa using q4
  have q4H := Lib.hid q4
  clear q4
  go_wp2_with fail
  with_reducible refine (HAW.out _).mono ?_
  rintro e w4 ⟨rfl, hb⟩
  replace hs := bStep hs hb
  replace Bldepth := Bldepth.mono hb
  clear hb
  go_wp2
  go_ret
  exact ⟨rfl, hs⟩

set_option maxRecDepth 100000 in
set_option maxHeartbeats 4000000 in
theorem l7_ScanPlies_long (hAw : ∀ w : World, Calls Tryz.prog 12 #[] w (RetV w (.bool true))) (v : Value) (l : List (Int × Int)) (n1 d1 n2 d2 p : Int) (w : World) (hl : RowsI 2 FC w v l) (a1 : l.all shortF = true) (a2 : [(n1, d1), (n2, d2)].all shortF = true) (a3 : 12 < l.length) :
    Calls Tryz.prog 6 #[v, .agg #[.int .i64 n1, .int .i64 d1, .int .i64 n2, .int .i64 d2], .int .u8 p] w (RetV w (.bool true)) := by
  obtain ⟨ao, cap, rfl, hc1, hc2, hc3⟩ := hl.slice
  have hs := Below.refl w.heap.size w
  have HAW := Lib.hid hAw
  have HL := Lib.hid hl
  have HSL := Lib.hid a1
  have HS3 := Lib.hid a2
  clear a1 a2
  clear hAw hl
  go_enter Tryz.func6, Tryz.ntmps6
  go_wp2_with fail
  refine Calls.abs ?_
  intro w1 hW
  have hG : Gr [] w w1 := by rw [hW]; exact (Gr.refl _ _).alloc
  have hbw : Below w.heap.size w w1 := hG.below0 hs.size
  have hk : KeepD w w1 := hG.keep True.intro
  have sz_w1 : w.heap.size ≤ w.heap.size := hs.size
  have Bldepth : Bx w1 (w.heap.size) 83 #[.int .i64 n1, .int .i64 d1, .int .i64 n2, .int .i64 d2] := by rw [hW]; exact (Bx.new0 _ _ _)
  replace hs := hs.trans hbw
  clear hW hG hk hbw
  have hz_w1 : w.heap.size < w1.heap.size := Bldepth.lt
  with_reducible refine (l7_short _ l _ (HL.out.mono FC.kept hs)).mono ?_
  rintro e w2 ⟨rfl, hb⟩
  replace hs := bStep hs hb
  replace Bldepth := Bldepth.mono hb
  clear hb
  obtain ⟨b1, Hb1⟩ : ∃ b : Bool, b = l.all shortF := ⟨_, rfl⟩
  rw [← Hb1]
  replace Hb1 := Lib.hid Hb1
  have q2 : l.all shortF = true := HSL.out
  obtain rfl : b1 = true := by rw [Hb1.out]; exact q2
  have q2H := Lib.hid q2
  clear q2
  go_wp2_with fail
  with_reducible refine (l7_short _ [(n1, d1), (n2, d2)] _ (rowsF2 Bldepth)).mono ?_
  rintro e w3 ⟨rfl, hb⟩
  replace hs := bStep hs hb
  replace Bldepth := Bldepth.mono hb
  clear hb
  obtain ⟨b3, Hb3⟩ : ∃ b : Bool, b = [(n1, d1), (n2, d2)].all shortF := ⟨_, rfl⟩
  rw [← Hb3]
  replace Hb3 := Lib.hid Hb3
  have q4 : [(n1, d1), (n2, d2)].all shortF = true := HS3.out
  obtain rfl : b3 = true := by rw [Hb3.out]; exact q4
  have q4H := Lib.hid q4
  clear q4
  have q5 : 12 < l.length := by omega
  have q5d : ((12 : Int) < (l.length : Int)) = True := eq_true (by omega)
  go_wp2_with fail
  with_reducible refine (HAW.out _).mono ?_
  rintro e w4 ⟨rfl, hb⟩
  replace hs := bStep hs hb
  replace Bldepth := Bldepth.mono hb
  clear hb
  go_wp2
  go_ret
  exact ⟨rfl, hs⟩

end Go.Proofs.YtlfnapfnpkhggaaGreat
