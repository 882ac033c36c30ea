/-
  scan.exact where there is an error: a trace that is too long, a sample that is no number.
-/
import Derived.Test.YtkfekkhhfpkfaaaGreatPkPeak
import Derived.Test.YtkfekkhhfpkfaaaGreatPkFlt
set_option linter.unusedSimpArgs false
set_option linter.unusedVariables false
namespace Go.Proofs.YtkfekkhhfpkfaaaGreat
open Go.RowKit Dg
attribute [local go_sem ↓] Go.wp_at_zero Go.wp_at_succ

set_option maxRecDepth 100000 in
set_option maxHeartbeats 16000000 in
theorem sc_exact_bad (v : Value) (l : List (Nat × Rat)) (w : World) (hl : RowsI 1 F32 w v l) (h256 : l.length ≤ 256) (m : Nat) (hm : m < l.length) (hok : ∀ i x, i < m → l[i]? = some x → FlOk x) (hbad : ∀ x, l[m]? = some x → f32E x.1 = 255) :
    Calls Tryz.prog 67 #[v] w (Ret2 (fun _ v => v = .slice none 0 0) (fun _ v => v = .int .i64 1) w) := by
  obtain ⟨ao, cap, rfl, hc1, hc2, hc3⟩ := hl.slice
  have hs := Below.refl w.heap.size w
  have HL := Lib.hid hl
  have HOK := Lib.hid hok
  have HBAD := Lib.hid hbad
  obtain ⟨i0, hi, hz0, hz1, hz2⟩ := info_parts ratio_info
  clear hl hok hbad
  go_enter Tryz.func67, Tryz.ntmps67
  go_wp2
  go_loopw [4, 14] (fun av iv wq => ∃ k : Nat, k ≤ m ∧ iv = .int .i64 k ∧ Below w.heap.size w wq ∧ OwnR w.heap.size 32 3 PC wq av ((l.take k).map Prod.snd)) (fun _ iv _ => l.length - (intOf iv).toNat)
  case atStart => exact ⟨0, Nat.zero_le _, rfl, hs, OwnR.nil _ _ _ _ _⟩
  case round =>
    obtain ⟨k, hk, rfl, hs, Opa⟩ := hrel
    have hlt' : k < l.length := by omega
    have hkl : k ≤ l.length := by omega
    by_cases hlt : k < m
    · obtain ⟨⟨b32, q⟩, hx⟩ : ∃ x, l[k]? = some x := ⟨_, List.getElem?_eq_getElem hlt'⟩
      obtain ⟨b, o, c, cs, hv, hlen, hat, rfl⟩ := (HL.out.mono F32.kept hs).get hx
      obtain ⟨rfl, rfl⟩ := sliceE hv
      obtain ⟨b64, hcv, hfl⟩ := HOK.out _ _ hlt hx
      have e0 := hat 0 _ rfl
      clear hat
      simp only [Nat.add_zero, Nat.mul_one] at e0
      have HM := Lib.hid (map_take Prod.snd l k _ hx)
      have hlm : ((l.take k).map Prod.snd).length = k := by rw [List.length_map, List.length_take]; omega
      have HFL := Lib.hid hfl
      clear hx hv hlen hfl
      try dsimp only at e0 hcv
      go_wp2_with fail
      refine (HFL.out _).mono ?_
      rintro e w21 ⟨_, rfl, hq, hb⟩
      obtain ⟨shq, ahq, nhq, chq, Ahq, Nhq, Chq, rfl⟩ := hq.shape
      replace hs := bStep hs hb
      replace Opa := Opa.mono PC.kept hb
      clear hb e0 hcv
      go_wp2_with (at_builtin; refine wpList.stop ?_)
      refine ⟨?_⟩
      refine wpList.abs ?_
      intro w22 hW
      have hsz := hs.size
      have hbw : Below w.heap.size w21 w22 := by rw [hW]; exact (Below.alloc (Below.alloc (Below.refl w.heap.size w21) (by first | exact hs.size | (have := hs.size; simp; done) | (have := hs.size; simp; omega)) _) (by first | exact hs.size | (have := hs.size; simp; done) | (have := hs.size; simp; omega)) _)
      have hs1 : Below w.heap.size w w22 := hs.trans hbw
      have hk : KeepD w21 w22 := by rw [hW]; exact (((KeepD.refl _).alloc _).alloc _)
      have hb1 : Below w21.heap.size w21 w22 := by rw [hW]; exact (Below.alloc (Below.alloc (Below.refl _ _) (by first | exact Nat.le_refl _ | (simp; done) | (simp; omega)) _) (by first | exact Nat.le_refl _ | (simp; done) | (simp; omega)) _)
      have Bl1x : Bx w22 (w21.heap.size) 32 #[.bool shq, .slice ahq nhq chq, .slice Ahq Nhq Chq] := by rw [hW]; exact ((Bx.new' _ _ _ _ (by first | rfl | (simp; done))).alloc _)
      have Bl1e : Bx w22 (w21.heap.size + 1) 32 #[.bool shq, .slice ahq nhq chq, .slice Ahq Nhq Chq] := by rw [hW]; exact (Bx.new' _ _ _ _ (by first | rfl | (simp; done)))
      replace hs := hs1
      clear hs1
      have Blx := Bl1x
      clear Bl1x
      have Ble := Bl1e
      clear Bl1e
      replace hq := hq.keep hk
      replace Opa := Opa.mono PC.kept hb1
      clear hb1
      clear hW hk hsz hbw
      have hz_w22 : w21.heap.size + 1 < w22.heap.size := Ble.lt
      obtain ⟨css, ho1, ho2, ho3, hown0⟩ := Opa
      refine wpList_append_lies _ rfl _ _ _ rfl w.heap.size 32 i0 _ 3 56 Tryz.underlying25 hi hz0 hz1 hz2 rfl (by omega) _ _ css.flatten rfl hown0 ⟨w21.heap.size + 1, 0, none⟩ 1 1 [.bool shq, .slice ahq nhq chq, .slice Ahq Nhq Chq] rfl rfl Ble.news ?_ (by omega) ?_ ?_ ?_ _ rfl ?_
      · intro u hu; simp only [List.mem_cons, List.mem_nil_iff, or_false] at hu; rcases hu with rfl | rfl | rfl <;> rfl
      · unfold maxLen; omega
      · omega
      · exact hs.size
      intro gpa cappa w23 hown1 hgrow hat hlt_
      have hk_ := KeepD.owns hown0 hgrow (by decide)
      have ho := owns_onlyT hown0 hgrow
      replace hs := hs.grown hgrow hs.size (fun k hk => (hown0.lt k hk).1)
      replace Opa := OwnR.push PC.kept ho1 ho2 ho3 (x := q) rfl ⟨_, _, _, rfl, hq⟩ hown1 hk_
      replace hq := hq.keep hk_
      clear hk_ ho ho1 ho2 ho3 hown0 hown1 hgrow hat hlt_ Blx Ble
      go_wp2
      go_roundw
      case rel => exact ⟨k + 1, by omega, by go_num, hs, by rw [HM.out]; rw [hlm] at Opa; exact Opa⟩
      all_goals first | (simp [intOf]; done) | (simp [intOf]; omega)
    · obtain ⟨⟨b32, q⟩, hx⟩ : ∃ x, l[k]? = some x := ⟨_, List.getElem?_eq_getElem hlt'⟩
      obtain ⟨b, o, c, cs, hv, hlen, hat, rfl⟩ := (HL.out.mono F32.kept hs).get hx
      obtain ⟨rfl, rfl⟩ := sliceE hv
      have hkm : k = m := by omega
      have hb3 := HBAD.out _ (hkm ▸ hx)
      obtain ⟨b64, wn, hcv, hwn, hb64, -, hE⟩ := cv_any b32 wr
      have hE' := hE hb3
      have e0 := hat 0 _ rfl
      clear hat
      simp only [Nat.add_zero, Nat.mul_one] at e0
      have HFL := Lib.hid (fun w => float_odd hb64 hE' w)
      have hbn : Below wr.heap.size wr wn := by rcases hwn with rfl | rfl; exact Below.refl _ _; exact bDrew _
      clear hx hv hlen hkm hb3 hwn hE hE'
      try dsimp only at e0 hcv
      go_wp2_with fail
      replace hs := bStep hs hbn
      clear hbn Opa e0 hcv
      refine (HFL.out _).mono ?_
      rintro e w41 ⟨_, rfl, hq, hb⟩
      obtain ⟨shq, ahq, nhq, chq, Ahq, Nhq, Chq, rfl⟩ := hq.shape
      replace hs := bStep hs hb
      clear hb
      go_wp2
      refine bodyPost.abs ?_
      intro w42 hW
      have hsz := hs.size
      have hbw : Below w.heap.size w41 w42 := by rw [hW]; exact (Below.alloc (Below.refl w.heap.size w41) (by first | exact hs.size | (have := hs.size; simp; done) | (have := hs.size; simp; omega)) _)
      have hs1 : Below w.heap.size w w42 := hs.trans hbw
      have hk : KeepD w41 w42 := by rw [hW]; exact ((KeepD.refl _).alloc _)
      have Bl1x : Bx w42 (w41.heap.size) 32 #[.bool shq, .slice ahq nhq chq, .slice Ahq Nhq Chq] := by rw [hW]; exact (Bx.new' _ _ _ _ (by first | rfl | (simp; done)))
      replace hs := hs1
      clear hs1
      have Blx := Bl1x
      clear Bl1x
      clear hW hk hsz hbw
      have hz_w42 : w41.heap.size < w42.heap.size := Blx.lt
      go_ret2
      exact ⟨_, _, rfl, rfl, rfl, hs⟩
set_option maxRecDepth 100000 in
set_option maxHeartbeats 4000000 in
theorem sc_exact_long (v : Value) (l : List (Nat × Rat)) (w : World) (hl : RowsI 1 F32 w v l) (h256 : 256 < l.length) :
    Calls Tryz.prog 67 #[v] w (Ret2 (fun _ v => v = .slice none 0 0) (fun _ v => v = .int .i64 4) w) := by
  obtain ⟨ao, cap, rfl, hc1, hc2, hc3⟩ := hl.slice
  go_enter Tryz.func67, Tryz.ntmps67
  go_wp2
  go_ret2
  exact ⟨_, _, rfl, rfl, rfl, Below.refl _ _⟩
theorem flok_of {x : Nat} (h : f32E x ≠ 255) : FlOk (x, flQ (cvF x)) := ⟨cvF x, cv_num h, float_fin (cv_fin h).1 (cv_fin h).2⟩
end Go.Proofs.YtkfekkhhfpkfaaaGreat
/-
  scan's Gate.check at any gate.
-/
namespace Go.Proofs.YtkfekkhhfpkfaaaGreat
open Go.RowKit Dg
attribute [local go_sem ↓] Go.wp_at_zero Go.wp_at_succ

/-- What is wrong with a gate? -/
def gateE (f t n : Int) (lv : Nat) : Int := if f < 0 then 1 else if t ≤ f then 1 else if n < t then 1 else if f32E lv = 255 then 1 else if neg32 lv = true then 1 else 0
theorem eq_dec {a b : Bool} (h : a = b) : a = b := h
set_option maxRecDepth 100000 in
set_option maxHeartbeats 4000000 in
theorem sc_check0 (f t n : Int) (lv : Nat) (w : World) (ec : Int) (he : ec = gateE f t n lv) : Calls Tryz.prog 68 #[.agg #[.int .i64 f, .int .i64 t, .float .f32 lv], .int .i64 n] w (RetV w (.int .i64 ec)) := by
  have hs := Below.refl w.heap.size w
  have hcv := cv_run lv
  go_enter Tryz.func68, Tryz.ntmps68
  go_upto_region 2 with fail
  obtain ⟨W0, hW0⟩ : ∃ W0, W0 = w.alloc (.cells #[.int .i64 f, .int .i64 t, .float .f32 lv] 47) := ⟨_, rfl⟩
  rw [← hW0]
  have hb0 : Below w.heap.size w W0 := by rw [hW0]; exact Below.alloc hs (Nat.le_refl _) _
  have Blg0 : Bx W0 (w.heap.size) 47 #[.int .i64 f, .int .i64 t, .float .f32 lv] := by rw [hW0]; exact Bx.new0 _ _ _
  have hcb := cvW_below lv W0
  have hB1 := cvB_lt lv W0
  have hB2 := fun h => cvB_odd (x := lv) h W0
  have hB3 := fun h => (cvW_fin (x := lv) h W0).2
  replace hs := bStep hb0 hcb
  have Blg := Blg0.mono hcb
  clear hb0 Blg0 hcb hW0 hcv
  generalize cvW lv W0 = w1 at *
  generalize cvB lv W0 = b at *
  unfold gateE at he
  by_cases h1 : f < 0
  · rw [if_pos h1] at he; subst he
    have d1 : (f < (0 : Int)) = True := eq_true h1
    have cg_0 : w1.cell? ⟨w.heap.size, 0, none⟩ = some (.int .i64 f) := Blg.at 0 rfl
    have cg_1 : w1.cell? ⟨w.heap.size, 1, none⟩ = some (.int .i64 t) := Blg.at 1 rfl
    have cg_2 : w1.cell? ⟨w.heap.size, 2, none⟩ = some (.float .f32 lv) := Blg.at 2 rfl
    go_wp2
    go_ret
    exact ⟨rfl, hs⟩
  · rw [if_neg h1] at he
    have d1 : (f < (0 : Int)) = False := eq_false h1
    by_cases h2 : t ≤ f
    · rw [if_pos h2] at he; subst he
      have d2 : (t ≤ f) = True := eq_true h2
      have cg_0 : w1.cell? ⟨w.heap.size, 0, none⟩ = some (.int .i64 f) := Blg.at 0 rfl
      have cg_1 : w1.cell? ⟨w.heap.size, 1, none⟩ = some (.int .i64 t) := Blg.at 1 rfl
      have cg_2 : w1.cell? ⟨w.heap.size, 2, none⟩ = some (.float .f32 lv) := Blg.at 2 rfl
      go_wp2
      go_ret
      exact ⟨rfl, hs⟩
    · rw [if_neg h2] at he
      have d2 : (t ≤ f) = False := eq_false h2
      by_cases h3 : n < t
      · rw [if_pos h3] at he; subst he
        have d3 : (n < t) = True := eq_true h3
        have cg_0 : w1.cell? ⟨w.heap.size, 0, none⟩ = some (.int .i64 f) := Blg.at 0 rfl
        have cg_1 : w1.cell? ⟨w.heap.size, 1, none⟩ = some (.int .i64 t) := Blg.at 1 rfl
        have cg_2 : w1.cell? ⟨w.heap.size, 2, none⟩ = some (.float .f32 lv) := Blg.at 2 rfl
        go_wp2
        go_ret
        exact ⟨rfl, hs⟩
      · rw [if_neg h3] at he
        have d3 : (n < t) = False := eq_false h3
        by_cases h4 : f32E lv = 255
        · rw [if_pos h4] at he; subst he
          have hE := hB2 h4
          have HB1 := Lib.hid hB1
          have HE := Lib.hid hE
          clear hB1 hB2 hB3 hE h4
          by_cases h5 : flM b = 0
          · have HM := Lib.hid h5
            clear h5
            have cg_0 : w1.cell? ⟨w.heap.size, 0, none⟩ = some (.int .i64 f) := Blg.at 0 rfl
            have cg_1 : w1.cell? ⟨w.heap.size, 1, none⟩ = some (.int .i64 t) := Blg.at 1 rfl
            have cg_2 : w1.cell? ⟨w.heap.size, 2, none⟩ = some (.float .f32 lv) := Blg.at 2 rfl
            go_wp2_with fail
            refine (nan_inf HE.out HM.out _).mono ?_
            rintro e w2 ⟨rfl, hb⟩
            replace hs := bStep hs hb
            replace Blg := Blg.mono hb
            clear hb
            clear cg_0 cg_1 cg_2
            have cg_0 : w2.cell? ⟨w.heap.size, 0, none⟩ = some (.int .i64 f) := Blg.at 0 rfl
            have cg_1 : w2.cell? ⟨w.heap.size, 1, none⟩ = some (.int .i64 t) := Blg.at 1 rfl
            have cg_2 : w2.cell? ⟨w.heap.size, 2, none⟩ = some (.float .f32 lv) := Blg.at 2 rfl
            go_wp2_with fail
            refine (inf_inf HB1.out HE.out HM.out _).mono ?_
            rintro e w3 ⟨rfl, hb⟩
            replace hs := bStep hs hb
            replace Blg := Blg.mono hb
            clear hb
            clear cg_0 cg_1 cg_2
            have cg_0 : w3.cell? ⟨w.heap.size, 0, none⟩ = some (.int .i64 f) := Blg.at 0 rfl
            have cg_1 : w3.cell? ⟨w.heap.size, 1, none⟩ = some (.int .i64 t) := Blg.at 1 rfl
            have cg_2 : w3.cell? ⟨w.heap.size, 2, none⟩ = some (.float .f32 lv) := Blg.at 2 rfl
            go_wp2
            go_ret
            exact ⟨rfl, hs⟩
          · have HM := Lib.hid h5
            clear h5
            have cg_0 : w1.cell? ⟨w.heap.size, 0, none⟩ = some (.int .i64 f) := Blg.at 0 rfl
            have cg_1 : w1.cell? ⟨w.heap.size, 1, none⟩ = some (.int .i64 t) := Blg.at 1 rfl
            have cg_2 : w1.cell? ⟨w.heap.size, 2, none⟩ = some (.float .f32 lv) := Blg.at 2 rfl
            go_wp2_with fail
            refine (nan_nan HE.out HM.out _).mono ?_
            rintro e w2 ⟨rfl, hb⟩
            replace hs := bStep hs hb
            replace Blg := Blg.mono hb
            clear hb
            clear cg_0 cg_1 cg_2
            have cg_0 : w2.cell? ⟨w.heap.size, 0, none⟩ = some (.int .i64 f) := Blg.at 0 rfl
            have cg_1 : w2.cell? ⟨w.heap.size, 1, none⟩ = some (.int .i64 t) := Blg.at 1 rfl
            have cg_2 : w2.cell? ⟨w.heap.size, 2, none⟩ = some (.float .f32 lv) := Blg.at 2 rfl
            go_wp2
            go_ret
            exact ⟨rfl, hs⟩
        · rw [if_neg h4] at he
          have hE := (cv_fin h4).2
          have hO := neg64 h4
          rw [← hB3 h4] at hE hO
          have HB1 := Lib.hid hB1
          have HE := Lib.hid hE
          clear hB1 hB2 hB3 hE h4
          by_cases h5 : neg32 lv = true
          · rw [if_pos h5] at he; subst he
            rw [h5] at hO
            clear h5
            have cg_0 : w1.cell? ⟨w.heap.size, 0, none⟩ = some (.int .i64 f) := Blg.at 0 rfl
            have cg_1 : w1.cell? ⟨w.heap.size, 1, none⟩ = some (.int .i64 t) := Blg.at 1 rfl
            have cg_2 : w1.cell? ⟨w.heap.size, 2, none⟩ = some (.float .f32 lv) := Blg.at 2 rfl
            go_wp2_with fail
            refine (nan_fin HE.out _).mono ?_
            rintro e w2 ⟨rfl, hb⟩
            replace hs := bStep hs hb
            replace Blg := Blg.mono hb
            clear hb
            clear cg_0 cg_1 cg_2
            have cg_0 : w2.cell? ⟨w.heap.size, 0, none⟩ = some (.int .i64 f) := Blg.at 0 rfl
            have cg_1 : w2.cell? ⟨w.heap.size, 1, none⟩ = some (.int .i64 t) := Blg.at 1 rfl
            have cg_2 : w2.cell? ⟨w.heap.size, 2, none⟩ = some (.float .f32 lv) := Blg.at 2 rfl
            go_wp2_with fail
            refine (inf_fin HB1.out HE.out _).mono ?_
            rintro e w3 ⟨rfl, hb⟩
            replace hs := bStep hs hb
            replace Blg := Blg.mono hb
            clear hb
            clear cg_0 cg_1 cg_2
            have cg_0 : w3.cell? ⟨w.heap.size, 0, none⟩ = some (.int .i64 f) := Blg.at 0 rfl
            have cg_1 : w3.cell? ⟨w.heap.size, 1, none⟩ = some (.int .i64 t) := Blg.at 1 rfl
            have cg_2 : w3.cell? ⟨w.heap.size, 2, none⟩ = some (.float .f32 lv) := Blg.at 2 rfl
            go_wp2
            go_ret
            exact ⟨rfl, hs⟩
          · rw [if_neg h5] at he; subst he
            rw [Bool.eq_false_iff.2 h5] at hO
            clear h5
            have cg_0 : w1.cell? ⟨w.heap.size, 0, none⟩ = some (.int .i64 f) := Blg.at 0 rfl
            have cg_1 : w1.cell? ⟨w.heap.size, 1, none⟩ = some (.int .i64 t) := Blg.at 1 rfl
            have cg_2 : w1.cell? ⟨w.heap.size, 2, none⟩ = some (.float .f32 lv) := Blg.at 2 rfl
            go_wp2_with fail
            refine (nan_fin HE.out _).mono ?_
            rintro e w2 ⟨rfl, hb⟩
            replace hs := bStep hs hb
            replace Blg := Blg.mono hb
            clear hb
            clear cg_0 cg_1 cg_2
            have cg_0 : w2.cell? ⟨w.heap.size, 0, none⟩ = some (.int .i64 f) := Blg.at 0 rfl
            have cg_1 : w2.cell? ⟨w.heap.size, 1, none⟩ = some (.int .i64 t) := Blg.at 1 rfl
            have cg_2 : w2.cell? ⟨w.heap.size, 2, none⟩ = some (.float .f32 lv) := Blg.at 2 rfl
            go_wp2_with fail
            refine (inf_fin HB1.out HE.out _).mono ?_
            rintro e w3 ⟨rfl, hb⟩
            replace hs := bStep hs hb
            replace Blg := Blg.mono hb
            clear hb
            clear cg_0 cg_1 cg_2
            have cg_0 : w3.cell? ⟨w.heap.size, 0, none⟩ = some (.int .i64 f) := Blg.at 0 rfl
            have cg_1 : w3.cell? ⟨w.heap.size, 1, none⟩ = some (.int .i64 t) := Blg.at 1 rfl
            have cg_2 : w3.cell? ⟨w.heap.size, 2, none⟩ = some (.float .f32 lv) := Blg.at 2 rfl
            go_wp2
            go_ret
            exact ⟨rfl, hs⟩
theorem sc_check (f t n : Int) (lv : Nat) (w : World) : Calls Tryz.prog 68 #[.agg #[.int .i64 f, .int .i64 t, .float .f32 lv], .int .i64 n] w (RetV w (.int .i64 (gateE f t n lv))) := sc_check0 f t n lv w _ rfl
end Go.Proofs.YtkfekkhhfpkfaaaGreat
/-
  scan.Peak where there is an error in the trace or in the gate.
-/
namespace Go.Proofs.YtkfekkhhfpkfaaaGreat
open Go.RowKit Dg
attribute [local go_sem ↓] Go.wp_at_zero Go.wp_at_succ

set_option maxRecDepth 100000 in
set_option maxHeartbeats 4000000 in
theorem sc_Peak_err1 (v : Value) (f t : Int) (lv : Nat) (err : Int) (hne : err ≠ 0) (w : World) (hx : ∀ w' : World, Below w.heap.size w w' → Calls Tryz.prog 67 #[v] w' (Ret2 (fun _ v => v = .slice none 0 0) (fun _ v => v = .int .i64 err) w')) :
    Calls Tryz.prog 14 #[v, .agg #[.int .i64 f, .int .i64 t, .float .f32 lv]] w (Ret3 (fun _ v => v = .int .i64 0) (fun w v => PV w v 0) (fun _ v => v = .int .i64 err) w) := by
  have hs := Below.refl w.heap.size w
  have HX := Lib.hid hx
  have d1 : (err == 0) = false := by simpa using hne
  have d2 : (err != 0) = true := by simpa using hne
  clear hx hne
  go_enter Tryz.func14, Tryz.ntmps14
  go_wp2_with fail
  refine Calls.abs ?_
  intro w1 hW
  have hsz := hs.size
  have hbw : Below w.heap.size w w1 := by rw [hW]; exact (Below.alloc (Below.alloc (Below.refl w.heap.size w) (by first | exact hs.size | (have := hs.size; simp; done) | (have := hs.size; simp; omega)) _) (by first | exact hs.size | (have := hs.size; simp; done) | (have := hs.size; simp; omega)) _)
  have hs1 : Below w.heap.size w w1 := hs.trans hbw
  have hk : KeepD w w1 := by rw [hW]; exact (((KeepD.refl _).alloc _).alloc _)
  have Bl1g : Bx w1 (w.heap.size) 47 #[.int .i64 f, .int .i64 t, .float .f32 lv] := by rw [hW]; exact ((Bx.new' _ _ _ _ (by first | rfl | (simp; done))).alloc _)
  have Bl1r : Bx w1 (w.heap.size + 1) 32 #[.bool false, .slice none 0 0, .slice none 0 0] := by rw [hW]; exact (Bx.new' _ _ _ _ (by first | rfl | (simp; done)))
  replace hs := hs1
  clear hs1
  have Blg := Bl1g
  clear Bl1g
  have Blr := Bl1r
  clear Bl1r
  clear hW hk hsz hbw
  have hz_w1 : w.heap.size + 1 < w1.heap.size := Blr.lt
  refine (HX.out _ hs).mono ?_
  rintro e w2 ⟨_, _, rfl, rfl, rfl, hb⟩
  replace hs := bStep hs hb
  replace Blg := Blg.mono hb
  replace Blr := Blr.mono hb
  clear hb
  have cr_0 : w2.cell? ⟨w.heap.size + 1, 0, none⟩ = some (.bool false) := Blr.at 0 rfl
  have cr_1 : w2.cell? ⟨w.heap.size + 1, 1, none⟩ = some (.slice none 0 0) := Blr.at 1 rfl
  have cr_2 : w2.cell? ⟨w.heap.size + 1, 2, none⟩ = some (.slice none 0 0) := Blr.at 2 rfl
  have fr := Blr.free
  have Lr : w.heap.size + 1 < w2.heap.size := Blr.lt
  go_wp2
  refine bodyPost.abs ?_
  intro w3 hW
  have hsz := hs.size
  have lg := Blg.lt
  have lr := Blr.lt
  have hbw : Below w.heap.size w2 w3 := by rw [hW]; exact (Below.setCell (Below.setCell (Below.setCell (Below.refl w.heap.size w2) (by first | exact Nat.le_refl _ | omega | (have := hs.size; simp; done) | (have := hs.size; simp; omega)) _) (by first | exact Nat.le_refl _ | omega | (have := hs.size; simp; done) | (have := hs.size; simp; omega)) _) (by first | exact Nat.le_refl _ | omega | (have := hs.size; simp; done) | (have := hs.size; simp; omega)) _)
  have hs1 : Below w.heap.size w w3 := hs.trans hbw
  have hk : KeepD w2 w3 := by rw [hW]; exact (KeepD.set (KeepD.set (KeepD.set (KeepD.refl _) Blr.ty (by decide) _ _) (TyB.store Blr.ty _ _) (by decide) _ _) (TyB.store (TyB.store Blr.ty _ _) _ _) (by decide) _ _)
  have Bl1g : Bx w3 (w.heap.size) 47 #[.int .i64 f, .int .i64 t, .float .f32 lv] := by rw [hW]; exact (Bx.far (Bx.far (Bx.far Blg (by first | omega | (simp; done) | (simp; omega)) _) (by first | omega | (simp; done) | (simp; omega)) _) (by first | omega | (simp; done) | (simp; omega)) _)
  have Bl1r : Bx w3 (w.heap.size + 1) 32 #[.bool false, .slice none 0 0, .slice none 0 0] := by rw [hW]; exact (Bx.set (Bx.set (Bx.set Blr 0 _ rfl) 1 _ rfl) 2 _ rfl)
  replace hs := hs1
  clear hs1
  replace Blg := Bl1g
  clear Bl1g
  replace Blr := Bl1r
  clear Bl1r
  clear hW hk hsz hbw lg lr
  exact ret_IPE rfl rfl rfl rfl rfl Blr (PV.zero _) hs rfl rfl
set_option maxRecDepth 100000 in
set_option maxHeartbeats 4000000 in
theorem sc_Peak_err2 (v : Value) (l : List (Nat × Rat)) (f t : Int) (lv : Nat) (w : World) (hl : RowsI 1 F32 w v l) (h256 : l.length ≤ 256) (hok : ∀ x ∈ l, FlOk x) (hg : gateE f t l.length lv = 1) :
    Calls Tryz.prog 14 #[v, .agg #[.int .i64 f, .int .i64 t, .float .f32 lv]] w (Ret3 (fun _ v => v = .int .i64 0) (fun w v => PV w v 0) (fun _ v => v = .int .i64 1) w) := by
  obtain ⟨ao, cap, rfl, hc1, hc2, hc3⟩ := hl.slice
  have hs := Below.refl w.heap.size w
  have HX := Lib.hid (fun (w' : World) (hb : Below w.heap.size w w') => sc_exact_ok _ l w' (hl.mono F32.kept hb) h256 hok)
  have HG := Lib.hid (fun w => hg ▸ sc_check f t l.length lv w)
  clear hl hok hg
  go_enter Tryz.func14, Tryz.ntmps14
  go_wp2_with fail
  refine Calls.abs ?_
  intro w1 hW
  have hsz := hs.size
  have hbw : Below w.heap.size w w1 := by rw [hW]; exact (Below.alloc (Below.alloc (Below.refl w.heap.size w) (by first | exact hs.size | (have := hs.size; simp; done) | (have := hs.size; simp; omega)) _) (by first | exact hs.size | (have := hs.size; simp; done) | (have := hs.size; simp; omega)) _)
  have hs1 : Below w.heap.size w w1 := hs.trans hbw
  have hk : KeepD w w1 := by rw [hW]; exact (((KeepD.refl _).alloc _).alloc _)
  have Bl1g : Bx w1 (w.heap.size) 47 #[.int .i64 f, .int .i64 t, .float .f32 lv] := by rw [hW]; exact ((Bx.new' _ _ _ _ (by first | rfl | (simp; done))).alloc _)
  have Bl1r : Bx w1 (w.heap.size + 1) 32 #[.bool false, .slice none 0 0, .slice none 0 0] := by rw [hW]; exact (Bx.new' _ _ _ _ (by first | rfl | (simp; done)))
  replace hs := hs1
  clear hs1
  have Blg := Bl1g
  clear Bl1g
  have Blr := Bl1r
  clear Bl1r
  clear hW hk hsz hbw
  have hz_w1 : w.heap.size + 1 < w1.heap.size := Blr.lt
  refine (HX.out _ hs).mono ?_
  rintro e w2 ⟨_, _, rfl, -, rfl, hb⟩
  replace hs := bStep hs hb
  replace Blg := Blg.mono hb
  replace Blr := Blr.mono hb
  clear hb
  have cg_0 : w2.cell? ⟨w.heap.size, 0, none⟩ = some (.int .i64 f) := Blg.at 0 rfl
  have cg_1 : w2.cell? ⟨w.heap.size, 1, none⟩ = some (.int .i64 t) := Blg.at 1 rfl
  have cg_2 : w2.cell? ⟨w.heap.size, 2, none⟩ = some (.float .f32 lv) := Blg.at 2 rfl
  go_wp2_with fail
  refine (HG.out _).mono ?_
  rintro e w3 ⟨rfl, hb⟩
  replace hs := bStep hs hb
  replace Blg := Blg.mono hb
  replace Blr := Blr.mono hb
  clear hb
  clear cg_0 cg_1 cg_2
  have cr_0 : w3.cell? ⟨w.heap.size + 1, 0, none⟩ = some (.bool false) := Blr.at 0 rfl
  have cr_1 : w3.cell? ⟨w.heap.size + 1, 1, none⟩ = some (.slice none 0 0) := Blr.at 1 rfl
  have cr_2 : w3.cell? ⟨w.heap.size + 1, 2, none⟩ = some (.slice none 0 0) := Blr.at 2 rfl
  have fr := Blr.free
  have Lr : w.heap.size + 1 < w3.heap.size := Blr.lt
  go_wp2
  refine bodyPost.abs ?_
  intro w4 hW
  have hsz := hs.size
  have lg := Blg.lt
  have lr := Blr.lt
  have hbw : Below w.heap.size w3 w4 := by rw [hW]; exact (Below.setCell (Below.setCell (Below.setCell (Below.refl w.heap.size w3) (by first | exact Nat.le_refl _ | omega | (have := hs.size; simp; done) | (have := hs.size; simp; omega)) _) (by first | exact Nat.le_refl _ | omega | (have := hs.size; simp; done) | (have := hs.size; simp; omega)) _) (by first | exact Nat.le_refl _ | omega | (have := hs.size; simp; done) | (have := hs.size; simp; omega)) _)
  have hs1 : Below w.heap.size w w4 := hs.trans hbw
  have hk : KeepD w3 w4 := by rw [hW]; exact (KeepD.set (KeepD.set (KeepD.set (KeepD.refl _) Blr.ty (by decide) _ _) (TyB.store Blr.ty _ _) (by decide) _ _) (TyB.store (TyB.store Blr.ty _ _) _ _) (by decide) _ _)
  have Bl1g : Bx w4 (w.heap.size) 47 #[.int .i64 f, .int .i64 t, .float .f32 lv] := by rw [hW]; exact (Bx.far (Bx.far (Bx.far Blg (by first | omega | (simp; done) | (simp; omega)) _) (by first | omega | (simp; done) | (simp; omega)) _) (by first | omega | (simp; done) | (simp; omega)) _)
  have Bl1r : Bx w4 (w.heap.size + 1) 32 #[.bool false, .slice none 0 0, .slice none 0 0] := by rw [hW]; exact (Bx.set (Bx.set (Bx.set Blr 0 _ rfl) 1 _ rfl) 2 _ rfl)
  replace hs := hs1
  clear hs1
  replace Blg := Bl1g
  clear Bl1g
  replace Blr := Bl1r
  clear Bl1r
  clear hW hk hsz hbw lg lr
  exact ret_IPE rfl rfl rfl rfl rfl Blr (PV.zero _) hs rfl rfl
/-- What Peak hands back, at any trace and gate. -/
def yQ (ys : List Nat) : List Rat := ys.map fun x => flQ (cvF x)
def traceE (ys : List Nat) : Int := if 256 < ys.length then 4 else if ys.any (fun x => decide (f32E x = 255)) then 1 else 0
def peakE0 (ys : List Nat) (f t : Int) (lv : Nat) : Int := if traceE ys ≠ 0 then traceE ys else gateE f t ys.length lv
def peakE (ys : List Nat) (f t : Int) (lv : Nat) : Int := if peakE0 ys f t lv ≠ 0 then peakE0 ys f t lv else pkE (yQ ys) f.toNat t.toNat (flQ (cvF lv))
def peakN (ys : List Nat) (f t : Int) (lv : Nat) : Int := if peakE0 ys f t lv ≠ 0 then 0 else pkN (yQ ys) f.toNat t.toNat (flQ (cvF lv))
def peakV (ys : List Nat) (f t : Int) (lv : Nat) : Rat := if peakE0 ys f t lv ≠ 0 then 0 else pkV (yQ ys) f.toNat t.toNat (flQ (cvF lv))
theorem gateE_zero {f t n : Int} {lv : Nat} (h : gateE f t n lv = 0) : 0 ≤ f ∧ f < t ∧ t ≤ n ∧ f32E lv ≠ 255 ∧ neg32 lv = false := by
  unfold gateE at h
  repeat' split at h
  all_goals first | omega | skip
  rename_i h1 h2 h3 h4 h5
  exact ⟨by omega, by omega, by omega, h4, by simpa using h5⟩
theorem gateE_or (f t n : Int) (lv : Nat) : gateE f t n lv = 0 ∨ gateE f t n lv = 1 := by
  unfold gateE
  repeat' split
  all_goals simp
theorem first_odd : ∀ ys : List Nat, ys.any (fun x => decide (f32E x = 255)) = true → ∃ m, m < ys.length ∧ (∀ i x, i < m → ys[i]? = some x → f32E x ≠ 255) ∧ ∀ x, ys[m]? = some x → f32E x = 255
  | [], h => by simp at h
  | y :: ys, h => by
    by_cases e : f32E y = 255
    · exact ⟨0, by simp, fun i x hi _ => by omega, fun x hx => by simp at hx; rw [← hx]; exact e⟩
    · have h1 : ys.any (fun x => decide (f32E x = 255)) = true := by simpa [e] using h
      obtain ⟨m, hm, h2, h3⟩ := first_odd ys h1
      refine ⟨m + 1, by simpa using hm, fun i x hi hx => ?_, fun x hx => h3 x (by simpa using hx)⟩
      cases i with
      | zero => simp at hx; rw [← hx]; exact e
      | succ i => exact h2 i x (by omega) (by simpa using hx)
theorem flQ_fit {x : Nat} (h : f32E x ≠ 255) : Fit (flQ (cvF x)) := (flQ_sz (cv_fin h).2).fit
theorem sc_Peak_calls (v : Value) (ys : List Nat) (f t : Int) (lv : Nat) (w : World) (hl : RowsI 1 F32 w v (ys.map fun x => (x, flQ (cvF x)))) :
    Calls Tryz.prog 14 #[v, .agg #[.int .i64 f, .int .i64 t, .float .f32 lv]] w (Ret3 (fun _ v => v = .int .i64 (peakN ys f t lv)) (fun w v => PV w v (peakV ys f t lv)) (fun _ v => v = .int .i64 (peakE ys f t lv)) w) := by
  have hlen : (ys.map fun x => (x, flQ (cvF x))).length = ys.length := List.length_map _
  by_cases h256 : 256 < ys.length
  · have e : traceE ys = 4 := by unfold traceE; rw [if_pos h256]
    have e0 : peakE0 ys f t lv = 4 := by unfold peakE0; rw [e]; rfl
    unfold peakE peakN peakV
    rw [e0]
    exact sc_Peak_err1 v f t lv 4 (by decide) w fun w' hb => sc_exact_long v _ w' (hl.mono F32.kept hb) (by rw [hlen]; exact h256)
  · by_cases ho : ys.any (fun x => decide (f32E x = 255)) = true
    · have e : traceE ys = 1 := by unfold traceE; rw [if_neg h256, if_pos ho]
      have e0 : peakE0 ys f t lv = 1 := by unfold peakE0; rw [e]; rfl
      unfold peakE peakN peakV
      rw [e0]
      obtain ⟨m, hm, h1, h2⟩ := first_odd ys ho
      refine sc_Peak_err1 v f t lv 1 (by decide) w fun w' hb => sc_exact_bad v _ w' (hl.mono F32.kept hb) (by rw [hlen]; omega) m (by rw [hlen]; exact hm) (fun i x hi hx => ?_) fun x hx => ?_
      · rw [List.getElem?_map] at hx
        obtain ⟨y, hy, rfl⟩ := Option.map_eq_some_iff.1 hx
        exact flok_of (h1 i y hi hy)
      · rw [List.getElem?_map] at hx
        obtain ⟨y, hy, rfl⟩ := Option.map_eq_some_iff.1 hx
        exact h2 y hy
    · have hno : ∀ y ∈ ys, f32E y ≠ 255 := fun y hy hE => ho (List.any_eq_true.2 ⟨y, hy, decide_eq_true hE⟩)
      have e : traceE ys = 0 := by unfold traceE; rw [if_neg h256, if_neg ho]
      have hok : ∀ x ∈ ys.map fun x => (x, flQ (cvF x)), FlOk x := fun x hx => by
        obtain ⟨y, hy, rfl⟩ := List.mem_map.1 hx
        exact flok_of (hno y hy)
      have e0 : peakE0 ys f t lv = gateE f t ys.length lv := by unfold peakE0; rw [e]; rfl
      unfold peakE peakN peakV
      rw [e0]
      rcases gateE_or f t ys.length lv with hg | hg
      · obtain ⟨g1, g2, g3, g4, g5⟩ := gateE_zero hg
        rw [hg]
        obtain ⟨f, rfl⟩ := Int.eq_ofNat_of_zero_le g1
        obtain ⟨t, rfl⟩ := Int.eq_ofNat_of_zero_le (show 0 ≤ t by omega)
        have := sc_Peak_ok v (ys.map fun x => (x, flQ (cvF x))) f t (lv, flQ (cvF lv)) w hl (by rw [hlen]; omega) hok (flok_of g4) (by omega) (by rw [hlen]; omega)
          (fun w => by have := sc_check f t ys.length lv w; rw [hg] at this; rw [hlen]; exact this)
          (fun x hx => by obtain ⟨y, hy, rfl⟩ := List.mem_map.1 hx; exact flQ_fit (hno y hy)) (flQ_fit g4)
        have em : (ys.map fun x => (x, flQ (cvF x))).map Prod.snd = yQ ys := by rw [List.map_map]; rfl
        rw [em] at this
        exact this
      · rw [hg]
        exact sc_Peak_err2 v _ f t lv w hl (by rw [hlen]; omega) hok (by rw [hlen]; exact hg)
end Go.Proofs.YtkfekkhhfpkfaaaGreat
