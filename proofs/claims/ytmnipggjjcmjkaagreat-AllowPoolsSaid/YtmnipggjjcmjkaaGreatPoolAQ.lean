/-
  Pool, both sides.
-/
import Derived.Test.YtmnipggjjcmjkaaGreatPkPoolQ
set_option linter.unusedSimpArgs false
set_option linter.unusedVariables false
namespace Go.Proofs.YtmnipggjjcmjkaaGreat
open Go.RowKit Dg
attribute [local go_sem ↓] Go.wp_at_zero Go.wp_at_succ

set_option maxRecDepth 100000 in
set_option maxHeartbeats 8000000 in
theorem al_Pool_few {v vl : Value} {L : List (List Rat)} {lev : Rat} (w : World) (hl : Rows 1 46 (LR 3 29 PC) w v L) (hv : PV w vl lev) (sv : Mid lev) (h1 : L.length < 1) : Calls Tryz.prog 31 #[v, vl] w (RetV w (.tuple #[.slice none 0 0, .int .i64 4])) := by
  obtain ⟨ao, cap, rfl, hc1, hc2, hc3⟩ := hl.slice
  obtain ⟨shv, ahv, nhv, chv, Ahv, Nhv, Chv, rfl⟩ := hv.shape
  have hs := Below.refl w.heap.size w
  have HL := Lib.hid hl
  clear hl
  go_enter Tryz.func31, Tryz.ntmps31
  have q1 : L.length < 1 := (by omega)
  have q1d : ((L.length : Int) < 1) = True := eq_true (by omega)
  go_wp2
  refine bodyPost.abs ?_
  intro w1 hW
  have hG : Gr [] w w1 := by rw [hW]; exact (Gr.refl _ _).alloc
  have hbw : Below w.heap.size w w1 := hG.below0 hs.size
  have hk : KeepD w w1 := hG.keep True.intro
  have sz_w1 : w.heap.size ≤ w.heap.size := hs.size
  have Bllevel : Bx w1 (w.heap.size) 29 #[.bool shv, .slice ahv nhv chv, .slice Ahv Nhv Chv] := by rw [hW]; exact (Bx.new0 _ _ _)
  replace hs := hs.trans hbw
  replace hv := hv.keep hk
  clear hW hG hk hbw
  have hz_w1 : w.heap.size < w1.heap.size := Bllevel.lt
  go_ret2
  exact ⟨rfl, hs⟩

set_option maxRecDepth 100000 in
set_option maxHeartbeats 8000000 in
theorem al_Pool_many {v vl : Value} {L : List (List Rat)} {lev : Rat} (w : World) (hl : Rows 1 46 (LR 3 29 PC) w v L) (hv : PV w vl lev) (sv : Mid lev) (h1 : 16 < L.length) : Calls Tryz.prog 31 #[v, vl] w (RetV w (.tuple #[.slice none 0 0, .int .i64 4])) := by
  obtain ⟨ao, cap, rfl, hc1, hc2, hc3⟩ := hl.slice
  obtain ⟨shv, ahv, nhv, chv, Ahv, Nhv, Chv, rfl⟩ := hv.shape
  have hs := Below.refl w.heap.size w
  have HL := Lib.hid hl
  clear hl
  go_enter Tryz.func31, Tryz.ntmps31
  have q1 : ¬ (L.length < 1) := (by omega)
  have q1d : ((L.length : Int) < 1) = False := eq_false (by omega)
  have q2 : 16 < L.length := (by omega)
  have q2d : ((16 : Int) < (L.length : Int)) = True := eq_true (by omega)
  go_wp2
  refine bodyPost.abs ?_
  intro w1 hW
  have hG : Gr [] w w1 := by rw [hW]; exact (Gr.refl _ _).alloc
  have hbw : Below w.heap.size w w1 := hG.below0 hs.size
  have hk : KeepD w w1 := hG.keep True.intro
  have sz_w1 : w.heap.size ≤ w.heap.size := hs.size
  have Bllevel : Bx w1 (w.heap.size) 29 #[.bool shv, .slice ahv nhv chv, .slice Ahv Nhv Chv] := by rw [hW]; exact (Bx.new0 _ _ _)
  replace hs := hs.trans hbw
  replace hv := hv.keep hk
  clear hW hG hk hbw
  have hz_w1 : w.heap.size < w1.heap.size := Bllevel.lt
  go_ret2
  exact ⟨rfl, hs⟩

set_option maxRecDepth 100000 in
set_option maxHeartbeats 8000000 in
theorem al_Pool_e2 {v vl : Value} {L : List (List Rat)} {lev : Rat} (w : World) (hl : Rows 1 46 (LR 3 29 PC) w v L) (hv : PV w vl lev) (sv : Mid lev) (h1 : 1 ≤ L.length) (h2 : L.length ≤ 16) (hn : ¬ allOk L L.length) : Calls Tryz.prog 31 #[v, vl] w (RetV w (.tuple #[.slice none 0 0, .int .i64 4])) := by
  obtain ⟨lb, lo, cap, rfl, hc1, hc2, -⟩ := hl.open_ (by omega)
  obtain ⟨shv, ahv, nhv, chv, Ahv, Nhv, Chv, rfl⟩ := hv.shape
  have hs := Below.refl w.heap.size w
  have HL := Lib.hid hl
  have HN := Lib.hid hn
  clear hl hn
  go_enter Tryz.func31, Tryz.ntmps31
  have q1 : ¬ (L.length < 1) := (by omega)
  have q1d : ((L.length : Int) < 1) = False := eq_false (by omega)
  have q2 : ¬ (16 < L.length) := (by omega)
  have q2d : ((16 : Int) < (L.length : Int)) = False := eq_false (by omega)
  go_wp2
  refine Code.abs ?_
  intro w1 hW
  have hG : Gr [] w w1 := by rw [hW]; exact (Gr.refl _ _).alloc
  have hbw : Below w.heap.size w w1 := hG.below0 hs.size
  have hk : KeepD w w1 := hG.keep True.intro
  have sz_w1 : w.heap.size ≤ w.heap.size := hs.size
  have Bllevel : Bx w1 (w.heap.size) 29 #[.bool shv, .slice ahv nhv chv, .slice Ahv Nhv Chv] := by rw [hW]; exact (Bx.new0 _ _ _)
  replace hs := hs.trans hbw
  replace hv := hv.keep hk
  clear hW hG hk hbw
  have hz_w1 : w.heap.size < w1.heap.size := Bllevel.lt
  go_loopw [6, 25] (fun s6 s25 wq => ∃ k : Nat, k ≤ L.length ∧ s25 = .int .i64 k ∧ s6 = .int .i64 (((lenS L k : Nat) : Int)) ∧ Below w.heap.size w wq ∧ Bx wq (w.heap.size) 29 #[.bool shv, .slice ahv nhv chv, .slice Ahv Nhv Chv] ∧ PV wq (.agg #[.bool shv, .slice ahv nhv chv, .slice Ahv Nhv Chv]) (lev) ∧ (allOk L k)) (fun s6 s25 _ => L.length - (intOf s25).toNat)
  case atStart => exact ⟨0, Nat.zero_le _, rfl, rfl, hs, Bllevel, hv, allOk.zero L⟩
  case round =>
    clear Bllevel hv hs
    obtain ⟨k, k_le, rfl, rfl, hs, Bllevel, hv, HK⟩ := hrel
    replace HK := Lib.hid HK
    have nk := lenS_ok HK.out (show k ≤ L.length from k_le)
    by_cases q3 : k < L.length
    · have q3d : ((k : Int) < (L.length : Int)) = True := eq_true (by omega)
      have BI4a : k < L.length := by omega
      have BI4b : ((k : Int) : Int) < (L.length : Int) := by omega
      obtain ⟨ao5, ko5, Eo5, -, -, ho5, lo5⟩ := rowL_at (HL.out.monoB (LR.keptB PC.kept) hs) (nthL_some (show k < L.length by omega))
      go_wp2_with fail
      clear lo5 Eo5
      with_reducible refine (al_chV_all (e := chE (nthL L k)) _ ho5 rfl).mono ?_
      rintro e w22 ⟨rfl, hb⟩
      replace hs := bStep hs hb
      replace Bllevel := Bllevel.mono hb
      replace hv := hv.mono hb
      replace ho5 := rowsJ PC.kept _ _ _ ho5 hb
      clear hb
      obtain ⟨sg6, Hsg6⟩ : ∃ s : Int, s = chE (nthL L k) := ⟨_, rfl⟩
      rw [← Hsg6]
      replace Hsg6 := Lib.hid Hsg6
      by_cases q7 : sg6 = 0
      · have q7b : (sg6 == 0) = true := beq_iff_eq.2 (by omega)
        have q7n : (sg6 != 0) = false := bne_eq_false_iff_eq.2 (by omega)
        have q7H := Lib.hid q7
        clear q7
        have nxsg6 := (chE_zero (Hsg6.out.symm.trans q7H.out)).2
        go_wp2
        go_roundw
        case rel => exact ⟨k + 1, by omega, by go_num, (congrArg _ (show ((lenS L k : Nat) : Int) + (((nthL L k).length : Nat) : Int) = ((lenS L (k + 1) : Nat) : Int) from by show _ = ((lenS L k + (nthL L k).length : Nat) : Int); omega)), hs, Bllevel, hv, (allOk.next HK.out (Hsg6.out.symm.trans q7H.out))⟩
        all_goals first | (simp [intOf]; done) | (simp [intOf]; omega)
      · have q7b : (sg6 == 0) = false := beq_eq_false_iff_ne.2 (by omega)
        have q7n : (sg6 != 0) = true := bne_iff_ne.2 (by omega)
        have q7H := Lib.hid q7
        clear q7
        have nfsg6 := (show sg6 = 4 from Hsg6.out.trans (chE_four (fun e_ => q7H.out (Hsg6.out.trans e_))))
        go_wp2
        go_ret2
        exact ⟨(by first | rfl | rw [nfsg6]), hs⟩
    · have q3d : ((k : Int) < (L.length : Int)) = False := eq_false (by omega)
      exact absurd (show allOk L L.length from (show k = L.length from by omega) ▸ HK.out) HN.out

set_option maxRecDepth 100000 in
set_option maxHeartbeats 8000000 in
theorem al_Pool_e3 {v vl : Value} {L : List (List Rat)} {lev : Rat} (w : World) (hl : Rows 1 46 (LR 3 29 PC) w v L) (hv : PV w vl lev) (sv : Mid lev) (h1 : 1 ≤ L.length) (h2 : L.length ≤ 16) (ha : allOk L L.length) (h3 : 64 < lenS L L.length) : Calls Tryz.prog 31 #[v, vl] w (RetV w (.tuple #[.slice none 0 0, .int .i64 4])) := by
  obtain ⟨lb, lo, cap, rfl, hc1, hc2, -⟩ := hl.open_ (by omega)
  obtain ⟨shv, ahv, nhv, chv, Ahv, Nhv, Chv, rfl⟩ := hv.shape
  have hs := Below.refl w.heap.size w
  have HL := Lib.hid hl
  have HA := Lib.hid ha
  clear hl ha
  go_enter Tryz.func31, Tryz.ntmps31
  have q1 : ¬ (L.length < 1) := (by omega)
  have q1d : ((L.length : Int) < 1) = False := eq_false (by omega)
  have q2 : ¬ (16 < L.length) := (by omega)
  have q2d : ((16 : Int) < (L.length : Int)) = False := eq_false (by omega)
  go_wp2
  refine Code.abs ?_
  intro w1 hW
  have hG : Gr [] w w1 := by rw [hW]; exact (Gr.refl _ _).alloc
  have hbw : Below w.heap.size w w1 := hG.below0 hs.size
  have hk : KeepD w w1 := hG.keep True.intro
  have sz_w1 : w.heap.size ≤ w.heap.size := hs.size
  have Bllevel : Bx w1 (w.heap.size) 29 #[.bool shv, .slice ahv nhv chv, .slice Ahv Nhv Chv] := by rw [hW]; exact (Bx.new0 _ _ _)
  replace hs := hs.trans hbw
  replace hv := hv.keep hk
  clear hW hG hk hbw
  have hz_w1 : w.heap.size < w1.heap.size := Bllevel.lt
  go_loopw [6, 25] (fun s6 s25 wq => ∃ k : Nat, k ≤ L.length ∧ s25 = .int .i64 k ∧ s6 = .int .i64 (((lenS L k : Nat) : Int)) ∧ Below w.heap.size w wq ∧ Bx wq (w.heap.size) 29 #[.bool shv, .slice ahv nhv chv, .slice Ahv Nhv Chv] ∧ PV wq (.agg #[.bool shv, .slice ahv nhv chv, .slice Ahv Nhv Chv]) (lev)) (fun s6 s25 _ => L.length - (intOf s25).toNat)
  case atStart => exact ⟨0, Nat.zero_le _, rfl, rfl, hs, Bllevel, hv⟩
  case round =>
    clear Bllevel hv hs
    obtain ⟨k, k_le, rfl, rfl, hs, Bllevel, hv⟩ := hrel
    have nk := lenS_all HA.out k_le
    have nj : k < L.length → (nthL L k).length ≤ 64 := fun h_ => (chE_zero (allOk.at HA.out k h_)).2
    by_cases q3 : k < L.length
    · have q3d : ((k : Int) < (L.length : Int)) = True := eq_true (by omega)
      have BI4a : k < L.length := by omega
      have BI4b : ((k : Int) : Int) < (L.length : Int) := by omega
      obtain ⟨ao5, ko5, Eo5, -, -, ho5, lo5⟩ := rowL_at (HL.out.monoB (LR.keptB PC.kept) hs) (nthL_some (show k < L.length by omega))
      go_wp2_with fail
      clear lo5 Eo5
      with_reducible refine (al_chV_all (e := 0) _ ho5 (allOk.ifz HA.out k (by omega))).mono ?_
      rintro e w22 ⟨rfl, hb⟩
      replace hs := bStep hs hb
      replace Bllevel := Bllevel.mono hb
      replace hv := hv.mono hb
      replace ho5 := rowsJ PC.kept _ _ _ ho5 hb
      clear hb
      go_wp2
      go_roundw
      case rel => exact ⟨k + 1, by omega, by go_num, (congrArg _ (show ((lenS L k : Nat) : Int) + (((nthL L k).length : Nat) : Int) = ((lenS L (k + 1) : Nat) : Int) from by show _ = ((lenS L k + (nthL L k).length : Nat) : Int); omega)), hs, Bllevel, hv⟩
      all_goals first | (simp [intOf]; done) | (simp [intOf]; omega)
    · have q3d : ((k : Int) < (L.length : Int)) = False := eq_false (by omega)
      obtain rfl : k = L.length := by omega
      have q4 : 64 < (lenS L L.length : Nat) := (by omega)
      have q4d : ((64 : Int) < ((lenS L L.length : Nat) : Int)) = True := eq_true (by omega)
      go_wp2
      go_ret2
      exact ⟨rfl, hs⟩

set_option maxRecDepth 100000 in
set_option maxHeartbeats 8000000 in
theorem al_Pool_e4 {v vl : Value} {L : List (List Rat)} {lev : Rat} (w : World) (hl : Rows 1 46 (LR 3 29 PC) w v L) (hv : PV w vl lev) (sv : Mid lev) (h1 : 1 ≤ L.length) (h2 : L.length ≤ 16) (ha : allOk L L.length) (h3 : lenS L L.length ≤ 64) (hc : ¬ (0 ≤ lev ∧ lev ≤ 1)) : Calls Tryz.prog 31 #[v, vl] w (RetV w (.tuple #[.slice none 0 0, .int .i64 1])) := by
  obtain ⟨lb, lo, cap, rfl, hc1, hc2, -⟩ := hl.open_ (by omega)
  obtain ⟨shv, ahv, nhv, chv, Ahv, Nhv, Chv, rfl⟩ := hv.shape
  have hs := Below.refl w.heap.size w
  have HL := Lib.hid hl
  have HA := Lib.hid ha
  have HC := Lib.hid hc
  clear hl ha hc
  go_enter Tryz.func31, Tryz.ntmps31
  have q1 : ¬ (L.length < 1) := (by omega)
  have q1d : ((L.length : Int) < 1) = False := eq_false (by omega)
  have q2 : ¬ (16 < L.length) := (by omega)
  have q2d : ((16 : Int) < (L.length : Int)) = False := eq_false (by omega)
  go_wp2
  refine Code.abs ?_
  intro w1 hW
  have hG : Gr [] w w1 := by rw [hW]; exact (Gr.refl _ _).alloc
  have hbw : Below w.heap.size w w1 := hG.below0 hs.size
  have hk : KeepD w w1 := hG.keep True.intro
  have sz_w1 : w.heap.size ≤ w.heap.size := hs.size
  have Bllevel : Bx w1 (w.heap.size) 29 #[.bool shv, .slice ahv nhv chv, .slice Ahv Nhv Chv] := by rw [hW]; exact (Bx.new0 _ _ _)
  replace hs := hs.trans hbw
  replace hv := hv.keep hk
  clear hW hG hk hbw
  have hz_w1 : w.heap.size < w1.heap.size := Bllevel.lt
  go_loopw [6, 25] (fun s6 s25 wq => ∃ k : Nat, k ≤ L.length ∧ s25 = .int .i64 k ∧ s6 = .int .i64 (((lenS L k : Nat) : Int)) ∧ Below w.heap.size w wq ∧ Bx wq (w.heap.size) 29 #[.bool shv, .slice ahv nhv chv, .slice Ahv Nhv Chv] ∧ PV wq (.agg #[.bool shv, .slice ahv nhv chv, .slice Ahv Nhv Chv]) (lev)) (fun s6 s25 _ => L.length - (intOf s25).toNat)
  case atStart => exact ⟨0, Nat.zero_le _, rfl, rfl, hs, Bllevel, hv⟩
  case round =>
    clear Bllevel hv hs
    obtain ⟨k, k_le, rfl, rfl, hs, Bllevel, hv⟩ := hrel
    have nk := lenS_all HA.out k_le
    have nj : k < L.length → (nthL L k).length ≤ 64 := fun h_ => (chE_zero (allOk.at HA.out k h_)).2
    by_cases q3 : k < L.length
    · have q3d : ((k : Int) < (L.length : Int)) = True := eq_true (by omega)
      have BI4a : k < L.length := by omega
      have BI4b : ((k : Int) : Int) < (L.length : Int) := by omega
      obtain ⟨ao5, ko5, Eo5, -, -, ho5, lo5⟩ := rowL_at (HL.out.monoB (LR.keptB PC.kept) hs) (nthL_some (show k < L.length by omega))
      go_wp2_with fail
      clear lo5 Eo5
      with_reducible refine (al_chV_all (e := 0) _ ho5 (allOk.ifz HA.out k (by omega))).mono ?_
      rintro e w22 ⟨rfl, hb⟩
      replace hs := bStep hs hb
      replace Bllevel := Bllevel.mono hb
      replace hv := hv.mono hb
      replace ho5 := rowsJ PC.kept _ _ _ ho5 hb
      clear hb
      go_wp2
      go_roundw
      case rel => exact ⟨k + 1, by omega, by go_num, (congrArg _ (show ((lenS L k : Nat) : Int) + (((nthL L k).length : Nat) : Int) = ((lenS L (k + 1) : Nat) : Int) from by show _ = ((lenS L k + (nthL L k).length : Nat) : Int); omega)), hs, Bllevel, hv⟩
      all_goals first | (simp [intOf]; done) | (simp [intOf]; omega)
    · have q3d : ((k : Int) < (L.length : Int)) = False := eq_false (by omega)
      obtain rfl : k = L.length := by omega
      have q4 : ¬ (64 < (lenS L L.length : Nat)) := (by omega)
      have q4d : ((64 : Int) < ((lenS L L.length : Nat) : Int)) = False := eq_false (by omega)
      have clevel_0 : wr.cell? ⟨w.heap.size, 0, none⟩ = some (.bool shv) := Bllevel.at 0 rfl
      have clevel_1 : wr.cell? ⟨w.heap.size, 1, none⟩ = some (.slice ahv nhv chv) := Bllevel.at 1 rfl
      have clevel_2 : wr.cell? ⟨w.heap.size, 2, none⟩ = some (.slice Ahv Nhv Chv) := Bllevel.at 2 rfl
      have Llevel : w.heap.size < wr.heap.size := Bllevel.lt
      go_wp2_with fail
      clear clevel_0 clevel_1 clevel_2 Llevel
      with_reducible refine (al_isChance _ _ _ hv sv rfl).mono ?_
      rintro e w22 ⟨rfl, hb⟩
      replace hs := bStep hs hb
      replace Bllevel := Bllevel.mono hb
      replace hv := hv.mono hb
      clear hb
      obtain ⟨b5, Hb5⟩ : ∃ b : Bool, b = decide (0 ≤ lev ∧ lev ≤ 1) := ⟨_, rfl⟩
      rw [← Hb5]
      replace Hb5 := Lib.hid Hb5
      have q6 : ¬ (0 ≤ lev ∧ lev ≤ 1) := HC.out
      obtain rfl : b5 = false := by rw [Hb5.out]; exact decide_eq_false q6
      have q6H := Lib.hid q6
      clear q6
      go_wp2
      go_ret2
      exact ⟨rfl, hs⟩

set_option maxRecDepth 100000 in
set_option maxHeartbeats 8000000 in
theorem al_Pool_ok {v vl : Value} {L : List (List Rat)} {lev : Rat} (w : World) (hl : Rows 1 46 (LR 3 29 PC) w v L) (hv : PV w vl lev) (sv : Mid lev) (h1 : 1 ≤ L.length) (h2 : L.length ≤ 16) (ha : allOk L L.length) (h3 : lenS L L.length ≤ 12) (hc : 0 ≤ lev ∧ lev ≤ 1) (hsz : ∀ i, i < L.length → SzL (nthL L i)) (ho : ∀ i, i < L.length → 1 ≤ (nthL L i).length) : Calls Tryz.prog 31 #[v, vl] w (Ret2 (fun w v => Rows 1 4 BC w v (okS lev L L.length)) (fun _ v => v = .int .i64 0) w) := by
  obtain ⟨lb, lo, cap, rfl, hc1, hc2, -⟩ := hl.open_ (by omega)
  obtain ⟨shv, ahv, nhv, chv, Ahv, Nhv, Chv, rfl⟩ := hv.shape
  have hs := Below.refl w.heap.size w
  have HL := Lib.hid hl
  have HA := Lib.hid ha
  have HC := Lib.hid hc
  have HSZ := Lib.hid hsz
  have HO1 := Lib.hid ho
  clear hl ha hc hsz ho
  obtain ⟨i0, hi, hz0, hz1, hz2⟩ := info_parts alP_info
  obtain ⟨j0, hj, hy0, hy1, hy2⟩ := info_parts bool_info8
  go_enter Tryz.func31, Tryz.ntmps31
  have q1 : ¬ (L.length < 1) := (by omega)
  have q1d : ((L.length : Int) < 1) = False := eq_false (by omega)
  have q2 : ¬ (16 < L.length) := (by omega)
  have q2d : ((16 : Int) < (L.length : Int)) = False := eq_false (by omega)
  go_wp2
  refine Code.abs ?_
  intro w1 hW
  have hG : Gr [] w w1 := by rw [hW]; exact (Gr.refl _ _).alloc
  have hbw : Below w.heap.size w w1 := hG.below0 hs.size
  have hk : KeepD w w1 := hG.keep True.intro
  have sz_w1 : w.heap.size ≤ w.heap.size := hs.size
  have Bllevel : Bx w1 (w.heap.size) 29 #[.bool shv, .slice ahv nhv chv, .slice Ahv Nhv Chv] := by rw [hW]; exact (Bx.new0 _ _ _)
  replace hs := hs.trans hbw
  replace hv := hv.keep hk
  clear hW hG hk hbw
  have hz_w1 : w.heap.size < w1.heap.size := Bllevel.lt
  go_loopw [6, 25] (fun s6 s25 wq => ∃ k : Nat, k ≤ L.length ∧ s25 = .int .i64 k ∧ s6 = .int .i64 (((lenS L k : Nat) : Int)) ∧ Below w.heap.size w wq ∧ Bx wq (w.heap.size) 29 #[.bool shv, .slice ahv nhv chv, .slice Ahv Nhv Chv] ∧ PV wq (.agg #[.bool shv, .slice ahv nhv chv, .slice Ahv Nhv Chv]) (lev)) (fun s6 s25 _ => L.length - (intOf s25).toNat)
  case atStart => exact ⟨0, Nat.zero_le _, rfl, rfl, hs, Bllevel, hv⟩
  case round =>
    clear Bllevel hv hs
    obtain ⟨k, k_le, rfl, rfl, hs, Bllevel, hv⟩ := hrel
    have nk := lenS_all HA.out k_le
    have nj : k < L.length → (nthL L k).length ≤ 64 := fun h_ => (chE_zero (allOk.at HA.out k h_)).2
    by_cases q3 : k < L.length
    · have q3d : ((k : Int) < (L.length : Int)) = True := eq_true (by omega)
      have BI4a : k < L.length := by omega
      have BI4b : ((k : Int) : Int) < (L.length : Int) := by omega
      obtain ⟨ao5, ko5, Eo5, -, -, ho5, lo5⟩ := rowL_at (HL.out.monoB (LR.keptB PC.kept) hs) (nthL_some (show k < L.length by omega))
      have lno5 := HO1.out k (show k < L.length by omega)
      obtain ⟨bo5, oo5, co5, hv_, -, -, -⟩ := ho5.open_ (by omega)
      injection hv_ with e1_ e2_ e3_
      subst e1_ e3_
      clear e2_
      go_wp2_with fail
      clear lo5 Eo5
      with_reducible refine (al_chV_all (e := 0) _ ho5 (allOk.ifz HA.out k (by omega))).mono ?_
      rintro e w22 ⟨rfl, hb⟩
      replace hs := bStep hs hb
      replace Bllevel := Bllevel.mono hb
      replace hv := hv.mono hb
      replace ho5 := rowsJ PC.kept _ _ _ ho5 hb
      clear hb
      go_wp2
      go_roundw
      case rel => exact ⟨k + 1, by omega, by go_num, (congrArg _ (show ((lenS L k : Nat) : Int) + (((nthL L k).length : Nat) : Int) = ((lenS L (k + 1) : Nat) : Int) from by show _ = ((lenS L k + (nthL L k).length : Nat) : Int); omega)), hs, Bllevel, hv⟩
      all_goals first | (simp [intOf]; done) | (simp [intOf]; omega)
    · have q3d : ((k : Int) < (L.length : Int)) = False := eq_false (by omega)
      obtain rfl : k = L.length := by omega
      have q4 : ¬ (64 < (lenS L L.length : Nat)) := (by omega)
      have q4d : ((64 : Int) < ((lenS L L.length : Nat) : Int)) = False := eq_false (by omega)
      have clevel_0 : wr.cell? ⟨w.heap.size, 0, none⟩ = some (.bool shv) := Bllevel.at 0 rfl
      have clevel_1 : wr.cell? ⟨w.heap.size, 1, none⟩ = some (.slice ahv nhv chv) := Bllevel.at 1 rfl
      have clevel_2 : wr.cell? ⟨w.heap.size, 2, none⟩ = some (.slice Ahv Nhv Chv) := Bllevel.at 2 rfl
      have Llevel : w.heap.size < wr.heap.size := Bllevel.lt
      go_wp2_with fail
      clear clevel_0 clevel_1 clevel_2 Llevel
      with_reducible refine (al_isChance _ _ _ hv sv rfl).mono ?_
      rintro e w22 ⟨rfl, hb⟩
      replace hs := bStep hs hb
      replace Bllevel := Bllevel.mono hb
      replace hv := hv.mono hb
      clear hb
      obtain ⟨b5, Hb5⟩ : ∃ b : Bool, b = decide (0 ≤ lev ∧ lev ≤ 1) := ⟨_, rfl⟩
      rw [← Hb5]
      replace Hb5 := Lib.hid Hb5
      have q6 : 0 ≤ lev ∧ lev ≤ 1 := HC.out
      obtain rfl : b5 = true := by rw [Hb5.out]; exact decide_eq_true q6
      have q6H := Lib.hid q6
      clear q6
      go_wp2
      have HB0_7 := Lib.hid hs
      clear hs
      have hs := Below.refl w22.heap.size w22
      have nb_level : w.heap.size < w22.heap.size := Bllevel.lt
      go_loopw [10, 11, 46] (fun s10 s11 s46 wq => ∃ j : Nat, j ≤ L.length ∧ s46 = .int .i64 j ∧ Below w22.heap.size w22 wq ∧ Bx wq (w.heap.size) 29 #[.bool shv, .slice ahv nhv chv, .slice Ahv Nhv Chv] ∧ PV wq (.agg #[.bool shv, .slice ahv nhv chv, .slice Ahv Nhv Chv]) (lev) ∧ OwnR w22.heap.size 29 3 PC wq s10 (tkS lev L j) ∧ OwnR w22.heap.size 4 1 BC wq s11 (okS lev L j)) (fun s10 s11 s46 _ => L.length - (intOf s46).toNat)
      case atStart => exact ⟨0, Nat.zero_le _, rfl, hs, Bllevel, hv, OwnR.nil _ _ _ _ _, OwnR.nil _ _ _ _ _⟩
      case round =>
        clear Bllevel hv hs
        obtain ⟨j, j_le, rfl, hs, Bllevel, hv, Otk, Oou⟩ := hrel
        have tkl := tkS_len lev L j
        have lk1 : j < L.length → lenS L j + (nthL L j).length ≤ lenS L L.length := len_one
        have lk2 : lenS L j ≤ lenS L L.length := lenS_mono L j_le
        have okl1 : (okS lev L j).length ≤ j := Nat.le_of_eq (okS_len lev L j)
        have okl2 : j ≤ (okS lev L j).length := Nat.le_of_eq (okS_len lev L j).symm
        have lnx : j < L.length → 1 ≤ (nthL L j).length := HO1.out j
        obtain ⟨q, HQ⟩ : ∃ q : Rat, alA (tkS lev L j) (nthL L j) = q := ⟨_, rfl⟩
        have sq : j < L.length → SzQ 1 q := fun h_ => HQ ▸ alA_sz (by omega)
        have HQ2 := Lib.hid (show alkQ (rkT (tkS lev L j ++ nthL L j) (tkS lev L j ++ nthL L j).length) (tkS lev L j).length = q from HQ)
        replace HQ := Lib.hid HQ
        by_cases q8 : j < L.length
        · have q8d : ((j : Int) < (L.length : Int)) = True := eq_true (by omega)
          have BI9a : j < L.length := by omega
          have BI9b : ((j : Int) : Int) < (L.length : Int) := by omega
          obtain ⟨ao10, ko10, Eo10, -, -, ho10, lo10⟩ := rowL_at (HL.out.monoB (LR.keptB PC.kept) (bStep HB0_7.out hs)) (nthL_some (show j < L.length by omega))
          have lno10 := HO1.out j (show j < L.length by omega)
          obtain ⟨bo10, oo10, co10, hv_, -, -, -⟩ := ho10.open_ (by omega)
          injection hv_ with e1_ e2_ e3_
          subst e1_ e3_
          clear e2_
          go_upto_region 21 with fail
          clear lo10 Eo10
          by_cases q11 : j = 0
          · have q11b : ((j : Int) == 0) = true := beq_iff_eq.2 (by omega)
            have q11n : ((j : Int) != 0) = false := bne_eq_false_iff_eq.2 (by omega)
            have q11H := Lib.hid q11
            clear q11
            refine U_region (S := fun w' => True) (by kernel_rfl) 11 ?_
            refine AnyU.abs ?_
            intro w43 hW
            have hb : Below wr.heap.size wr w43 := by rw [hW]; exact bDrew _
            replace hs := bStep hs hb
            replace Bllevel := Bllevel.mono hb
            replace hv := hv.mono hb
            replace Otk := Otk.mono PC.kept hb
            replace Oou := Oou.mono BC.kept hb
            replace ho10 := rowsJ PC.kept _ _ _ ho10 hb
            clear hb hW
            have hH := (show True from True.intro)
            refine U_tk 0 51 ?_ ?_ hH ?_
            rotate_left
            · (intro w hSw; (try dsimp only at hSw); go_simp; try with_reducible rfl)
            simp only [LY]
            refine U_tk 1 52 ?_ ?_ hH ?_
            rotate_left
            · (intro w hSw; (try dsimp only at hSw); go_simp; try with_reducible rfl)
            simp only [LY]
            refine U_tk 2 53 ?_ ?_ hH ?_
            rotate_left
            · (intro w hSw; (try dsimp only at hSw); go_simp; try with_reducible rfl)
            simp only [LY]
            refine U_tu 3 54 hH ?_
            simp only [LY]
            refine U_tu 4 55 hH ?_
            simp only [LY]
            refine U_tu 6 57 hH ?_
            simp only [LY]
            clear hH
            refine U_one (i := 5) (by kernel_rfl) rfl (fun K hK => ?_)
            go_simp
            refine hK.out _ _ True.intro (fun hH => ?_)
            clear hK K
            try simp only [LY]
            clear hH
            refine U_one (i := 7) (by kernel_rfl) rfl (fun K hK => ?_)
            go_simp
            refine hK.out _ _ True.intro (fun hH => ?_)
            clear hK K
            try simp only [LY]
            refine U_tu 8 59 hH ?_
            simp only [LY]
            refine U_tk 9 60 ?_ ?_ hH ?_
            rotate_left
            · (intro w hSw; (try dsimp only at hSw); go_simp; try with_reducible rfl)
            simp only [LY]
            refine U_tk 10 14 ?_ ?_ hH ?_
            rotate_left
            · (intro w hSw; (try dsimp only at hSw); go_simp; try with_reducible rfl)
            simp only [LY]
            clear hH
            refine U_endN (by kernel_rfl) ?_
            go_wp2_with (at_builtin; refine wpList.stop ?_)
            refine ⟨?_⟩
            obtain ⟨css, ho1, ho2, ho3, hown0⟩ := Otk
            obtain ⟨dss, d1, d2, d3, d4, d5⟩ := rows_flat ho10
            refine wpList_append_lies _ rfl _ _ _ rfl w22.heap.size 29 i0 _ 3 56 Tryz.underlying46 hi hz0 hz1 hz2 rfl (by omega) _ _ css.flatten rfl hown0 ⟨bo10, oo10, none⟩ (nthL L j).length ko10 dss.flatten rfl (by rw [flat_length _ d2, d1]) d5 d4 (by omega) ?_ ?_ hs.size _ rfl ?_
            · unfold maxLen; omega
            · omega
            intro gtk captk w44 hown1 hgrow hat hlt_
            have hk_ := KeepD.owns hown0 hgrow (by decide)
            have ho := owns_onlyT hown0 hgrow
            replace hs := hs.grown hgrow hs.size (fun k hk => (hown0.lt k hk).1)
            replace Otk := OwnR.pushL ho1 ho2 ho3 d1 d2 d3 hown1 hk_
            clear ho10
            replace Bllevel := Bllevel.grown hgrow (fun e => by have := (hown0.lt _ e.symm).1; omega)
            replace hv := hv.keep hk_
            replace Oou := Oou.onlyT BC.kept ho (by decide) (by decide)
            clear hk_ ho ho1 ho2 ho3 hown0 hown1 hgrow hat hlt_ d1 d2 d3 d4 d5
            go_wp2_with (at_builtin; refine wpList.stop ?_)
            refine ⟨?_⟩
            refine wpList.abs ?_
            intro w45 hW
            have hG : Gr [] w44 w45 := by rw [hW]; exact (Gr.refl _ _).alloc
            have hbw : Below w22.heap.size w44 w45 := hG.below0 hs.size
            have hk : KeepD w44 w45 := hG.keep True.intro
            have sz_w45 : w22.heap.size ≤ w44.heap.size := hs.size
            have nlevel_w45 : w.heap.size < w44.heap.size := Bllevel.lt
            have Blls : Bx w45 (w44.heap.size) 4 #[.bool true] := by rw [hW]; exact (Bx.new0 _ _ _)
            replace hs := hs.trans hbw
            replace Bllevel := hG.bx Bllevel notMem0
            replace hv := hv.keep hk
            replace Otk := Otk.mono PC.kept (hG.below0 (Nat.le_refl _))
            replace Oou := Oou.mono BC.kept (hG.below0 (Nat.le_refl _))
            clear hW hG hk hbw
            have hz_w45 : w44.heap.size < w45.heap.size := Blls.lt
            obtain ⟨css, ho1, ho2, ho3, hown0⟩ := Oou
            refine wpList_append_lies _ rfl _ _ _ rfl w22.heap.size 4 j0 _ 1 1 Tryz.underlying73 hj hy0 hy1 hy2 rfl (by omega) _ _ css.flatten rfl hown0 ⟨w44.heap.size, 0, none⟩ 1 1 [.bool true] rfl rfl Blls.news ?_ (by omega) ?_ ?_ ?_ _ rfl ?_
            · intro u hu; simp only [List.mem_cons, List.mem_nil_iff, or_false] at hu; rcases hu with rfl <;> rfl
            · unfold maxLen; (try simp only [List.length_append, List.length_cons, List.length_nil]); omega
            · (try simp only [List.length_append, List.length_cons, List.length_nil]); omega
            · exact hs.size
            intro gou capou w46 hown1 hgrow hat hlt_
            have hk_ := KeepD.owns hown0 hgrow (by decide)
            have ho := owns_onlyT hown0 hgrow
            replace hs := hs.grown hgrow hs.size (fun k hk => (hown0.lt k hk).1)
            replace Oou := OwnR.push' BC.kept ho1 ho2 ho3 (x := true) rfl rfl (by simp) hown1 hk_
            replace Bllevel := Bllevel.only ho (by decide)
            replace hv := hv.keep hk_
            replace Otk := Otk.onlyT PC.kept ho (by decide) (by decide)
            clear hk_ ho ho1 ho2 ho3 hown0 hown1 hgrow hat hlt_ Blls
            go_wp2
            go_roundw
            case rel => exact ⟨j + 1, by omega, by go_num, hs, Bllevel, hv, (by obtain rfl := q11H.out; rw [tkS_first]; exact Otk), (by obtain rfl := q11H.out; rw [okS_first]; exact Oou)⟩
            all_goals first | (simp [intOf]; done) | (simp [intOf]; omega)
          · have q11b : ((j : Int) == 0) = false := beq_eq_false_iff_ne.2 (by omega)
            have q11n : ((j : Int) != 0) = true := bne_iff_ne.2 (by omega)
            have q11H := Lib.hid q11
            clear q11
            obtain ⟨sg13, Hsg13⟩ : ∃ s : Int, s = sgQ (q - lev) := ⟨_, rfl⟩
            replace Hsg13 := Lib.hid Hsg13
            by_cases q14 : lev ≤ q
            · have q14_ : 0 ≤ sg13 := by have h := sq_ge q lev; rw [← Hsg13.out] at h; exact h.2 q14
              have q14H := Lib.hid q14
              clear q14
              have q14d : decide (0 ≤ sg13) = true := decide_eq_true q14_
              refine U_region (S := fun w' => w'.cell? ⟨w.heap.size, 0, none⟩ = some (.bool shv) ∧ w'.cell? ⟨w.heap.size, 1, none⟩ = some (.slice ahv nhv chv) ∧ w'.cell? ⟨w.heap.size, 2, none⟩ = some (.slice Ahv Nhv Chv)) (by kernel_rfl) 11 ?_
              refine AnyU.abs ?_
              intro w43 hW
              have hb : Below wr.heap.size wr w43 := by rw [hW]; exact bDrew _
              replace hs := bStep hs hb
              replace Bllevel := Bllevel.mono hb
              replace hv := hv.mono hb
              replace Otk := Otk.mono PC.kept hb
              replace Oou := Oou.mono BC.kept hb
              replace ho10 := rowsJ PC.kept _ _ _ ho10 hb
              clear hb hW
              have clevel_0 : w43.cell? ⟨w.heap.size, 0, none⟩ = some (.bool shv) := Bllevel.at 0 rfl
              have clevel_1 : w43.cell? ⟨w.heap.size, 1, none⟩ = some (.slice ahv nhv chv) := Bllevel.at 1 rfl
              have clevel_2 : w43.cell? ⟨w.heap.size, 2, none⟩ = some (.slice Ahv Nhv Chv) := Bllevel.at 2 rfl
              have hH := (show w43.cell? ⟨w.heap.size, 0, none⟩ = some (.bool shv) ∧ w43.cell? ⟨w.heap.size, 1, none⟩ = some (.slice ahv nhv chv) ∧ w43.cell? ⟨w.heap.size, 2, none⟩ = some (.slice Ahv Nhv Chv) from ⟨clevel_0, clevel_1, clevel_2⟩)
              refine U_tk 0 51 ?_ ?_ hH ?_
              rotate_left
              · (intro w hSw; (try dsimp only at hSw); go_simp; try with_reducible rfl)
              simp only [LY]
              refine U_tk 1 52 ?_ ?_ hH ?_
              rotate_left
              · (intro w hSw; (try dsimp only at hSw); go_simp; try with_reducible rfl)
              simp only [LY]
              refine U_tk 2 53 ?_ ?_ hH ?_
              rotate_left
              · (intro w hSw; (try dsimp only at hSw); go_simp; try with_reducible rfl)
              simp only [LY]
              refine U_tk 3 54 ?_ ?_ hH ?_
              rotate_left
              · (intro w hSw; (try dsimp only at hSw); go_simp; try with_reducible rfl)
              simp only [LY]
              refine U_tk 4 55 ?_ ?_ hH ?_
              rotate_left
              · (intro w hSw; (try dsimp only at hSw); go_simp; try with_reducible rfl)
              simp only [LY]
              refine U_tk 6 57 ?_ ?_ hH ?_
              rotate_left
              · (intro w hSw; (try dsimp only at hSw); go_simp; try with_reducible rfl)
              simp only [LY]
              clear hH
              refine U_one (i := 5) (by kernel_rfl) rfl (fun K hK => ?_)
              go_simp
              (with_reducible refine (al_alike _ Otk.rows ho10 (tkS_pos HO1.out j (Nat.pos_of_ne_zero q11H.out) (by omega)) (lnx (by omega)) (by omega) rfl (SzL.at (SzL.app (tkS_sz HSZ.out j (by omega)) (HSZ.out j (by omega)))) rfl HQ2.out).mono ?_)
              rintro e w44 ⟨_, rfl, h12, hb⟩
              obtain ⟨sh12, ah12, nh12, ch12, Ah12, Nh12, Ch12, rfl⟩ := h12.shape
              replace hs := bStep hs hb
              replace Bllevel := Bllevel.mono hb
              replace hv := hv.mono hb
              replace Otk := Otk.mono PC.kept hb
              replace Oou := Oou.mono BC.kept hb
              replace ho10 := rowsJ PC.kept _ _ _ ho10 hb
              replace clevel_0 := cellK clevel_0 hb
              replace clevel_1 := cellK clevel_1 hb
              replace clevel_2 := cellK clevel_2 hb
              clear hb
              try go_wp2_with fail
              refine hK.out _ _ ⟨clevel_0, clevel_1, clevel_2⟩ (fun hH => ?_)
              clear hK K
              try simp only [LY]
              clear hH
              refine U_one (i := 7) (by kernel_rfl) rfl (fun K hK => ?_)
              go_simp
              (with_reducible refine (pCmp h12 hv (SzQ.fit (sq (by omega))) (SzQ.fit sv)).mono ?_)
              rintro e w45 ⟨rfl, hb⟩
              replace hs := bStep hs hb
              replace Bllevel := Bllevel.mono hb
              replace hv := hv.mono hb
              replace h12 := h12.mono hb
              replace Otk := Otk.mono PC.kept hb
              replace Oou := Oou.mono BC.kept hb
              replace ho10 := rowsJ PC.kept _ _ _ ho10 hb
              replace clevel_0 := cellK clevel_0 hb
              replace clevel_1 := cellK clevel_1 hb
              replace clevel_2 := cellK clevel_2 hb
              clear hb
              rw [← Hsg13.out]
              try go_wp2_with fail
              refine hK.out _ _ ⟨clevel_0, clevel_1, clevel_2⟩ (fun hH => ?_)
              clear hK K
              try simp only [LY]
              refine U_tk 8 59 ?_ ?_ hH ?_
              rotate_left
              · (intro w hSw; (try dsimp only at hSw); go_simp; try with_reducible rfl)
              simp only [LY]
              refine U_tk 9 60 ?_ ?_ hH ?_
              rotate_left
              · (intro w hSw; (try dsimp only at hSw); go_simp; try with_reducible rfl)
              simp only [LY]
              refine U_tk 10 14 ?_ ?_ hH ?_
              rotate_left
              · (intro w hSw; (try dsimp only at hSw); go_simp; try with_reducible rfl)
              simp only [LY]
              clear hH
              refine U_endN (by kernel_rfl) ?_
              clear clevel_0 clevel_1 clevel_2
              go_wp2_with (at_builtin; refine wpList.stop ?_)
              refine ⟨?_⟩
              obtain ⟨css, ho1, ho2, ho3, hown0⟩ := Otk
              obtain ⟨dss, d1, d2, d3, d4, d5⟩ := rows_flat ho10
              refine wpList_append_lies _ rfl _ _ _ rfl w22.heap.size 29 i0 _ 3 56 Tryz.underlying46 hi hz0 hz1 hz2 rfl (by omega) _ _ css.flatten rfl hown0 ⟨bo10, oo10, none⟩ (nthL L j).length ko10 dss.flatten rfl (by rw [flat_length _ d2, d1]) d5 d4 (by omega) ?_ ?_ hs.size _ rfl ?_
              · unfold maxLen; omega
              · omega
              intro gtk captk w46 hown1 hgrow hat hlt_
              have hk_ := KeepD.owns hown0 hgrow (by decide)
              have ho := owns_onlyT hown0 hgrow
              replace hs := hs.grown hgrow hs.size (fun k hk => (hown0.lt k hk).1)
              replace Otk := OwnR.pushL ho1 ho2 ho3 d1 d2 d3 hown1 hk_
              clear ho10
              replace Bllevel := Bllevel.grown hgrow (fun e => by have := (hown0.lt _ e.symm).1; omega)
              replace hv := hv.keep hk_
              replace h12 := h12.keep hk_
              replace Oou := Oou.onlyT BC.kept ho (by decide) (by decide)
              clear hk_ ho ho1 ho2 ho3 hown0 hown1 hgrow hat hlt_ d1 d2 d3 d4 d5
              go_wp2_with (at_builtin; refine wpList.stop ?_)
              refine ⟨?_⟩
              refine wpList.abs ?_
              intro w47 hW
              have hG : Gr [] w46 w47 := by rw [hW]; exact (Gr.refl _ _).alloc
              have hbw : Below w22.heap.size w46 w47 := hG.below0 hs.size
              have hk : KeepD w46 w47 := hG.keep True.intro
              have sz_w47 : w22.heap.size ≤ w46.heap.size := hs.size
              have nlevel_w47 : w.heap.size < w46.heap.size := Bllevel.lt
              have Blls : Bx w47 (w46.heap.size) 4 #[.bool true] := by rw [hW]; exact (Bx.new0 _ _ _)
              replace hs := hs.trans hbw
              replace Bllevel := hG.bx Bllevel notMem0
              replace hv := hv.keep hk
              replace h12 := h12.keep hk
              replace Otk := Otk.mono PC.kept (hG.below0 (Nat.le_refl _))
              replace Oou := Oou.mono BC.kept (hG.below0 (Nat.le_refl _))
              clear hW hG hk hbw
              have hz_w47 : w46.heap.size < w47.heap.size := Blls.lt
              obtain ⟨css, ho1, ho2, ho3, hown0⟩ := Oou
              refine wpList_append_lies _ rfl _ _ _ rfl w22.heap.size 4 j0 _ 1 1 Tryz.underlying73 hj hy0 hy1 hy2 rfl (by omega) _ _ css.flatten rfl hown0 ⟨w46.heap.size, 0, none⟩ 1 1 [.bool true] rfl rfl Blls.news ?_ (by omega) ?_ ?_ ?_ _ rfl ?_
              · intro u hu; simp only [List.mem_cons, List.mem_nil_iff, or_false] at hu; rcases hu with rfl <;> rfl
              · unfold maxLen; (try simp only [List.length_append, List.length_cons, List.length_nil]); omega
              · (try simp only [List.length_append, List.length_cons, List.length_nil]); omega
              · exact hs.size
              intro gou capou w48 hown1 hgrow hat hlt_
              have hk_ := KeepD.owns hown0 hgrow (by decide)
              have ho := owns_onlyT hown0 hgrow
              replace hs := hs.grown hgrow hs.size (fun k hk => (hown0.lt k hk).1)
              replace Oou := OwnR.push' BC.kept ho1 ho2 ho3 (x := true) rfl rfl (by simp) hown1 hk_
              replace Bllevel := Bllevel.only ho (by decide)
              replace hv := hv.keep hk_
              replace h12 := h12.keep hk_
              replace Otk := Otk.onlyT PC.kept ho (by decide) (by decide)
              clear hk_ ho ho1 ho2 ho3 hown0 hown1 hgrow hat hlt_ Blls
              go_wp2
              go_roundw
              case rel => exact ⟨j + 1, by omega, by go_num, hs, Bllevel, hv, (by rw [tkS_yes (show lev ≤ alA (tkS lev L j) (nthL L j) from by rw [HQ.out]; exact q14H.out)]; exact Otk), (by rw [okS_yes (show lev ≤ alA (tkS lev L j) (nthL L j) from by rw [HQ.out]; exact q14H.out)]; exact Oou)⟩
              all_goals first | (simp [intOf]; done) | (simp [intOf]; omega)
            · have q14_ : ¬ (0 ≤ sg13) := by have h := sq_ge q lev; rw [← Hsg13.out] at h; exact fun h1 => q14 (h.1 h1)
              have q14H := Lib.hid q14
              clear q14
              have q14d : decide (0 ≤ sg13) = false := decide_eq_false q14_
              refine U_region (S := fun w' => w'.cell? ⟨w.heap.size, 0, none⟩ = some (.bool shv) ∧ w'.cell? ⟨w.heap.size, 1, none⟩ = some (.slice ahv nhv chv) ∧ w'.cell? ⟨w.heap.size, 2, none⟩ = some (.slice Ahv Nhv Chv)) (by kernel_rfl) 11 ?_
              refine AnyU.abs ?_
              intro w43 hW
              have hb : Below wr.heap.size wr w43 := by rw [hW]; exact bDrew _
              replace hs := bStep hs hb
              replace Bllevel := Bllevel.mono hb
              replace hv := hv.mono hb
              replace Otk := Otk.mono PC.kept hb
              replace Oou := Oou.mono BC.kept hb
              replace ho10 := rowsJ PC.kept _ _ _ ho10 hb
              clear hb hW
              have clevel_0 : w43.cell? ⟨w.heap.size, 0, none⟩ = some (.bool shv) := Bllevel.at 0 rfl
              have clevel_1 : w43.cell? ⟨w.heap.size, 1, none⟩ = some (.slice ahv nhv chv) := Bllevel.at 1 rfl
              have clevel_2 : w43.cell? ⟨w.heap.size, 2, none⟩ = some (.slice Ahv Nhv Chv) := Bllevel.at 2 rfl
              have hH := (show w43.cell? ⟨w.heap.size, 0, none⟩ = some (.bool shv) ∧ w43.cell? ⟨w.heap.size, 1, none⟩ = some (.slice ahv nhv chv) ∧ w43.cell? ⟨w.heap.size, 2, none⟩ = some (.slice Ahv Nhv Chv) from ⟨clevel_0, clevel_1, clevel_2⟩)
              refine U_tk 0 51 ?_ ?_ hH ?_
              rotate_left
              · (intro w hSw; (try dsimp only at hSw); go_simp; try with_reducible rfl)
              simp only [LY]
              refine U_tk 1 52 ?_ ?_ hH ?_
              rotate_left
              · (intro w hSw; (try dsimp only at hSw); go_simp; try with_reducible rfl)
              simp only [LY]
              refine U_tk 2 53 ?_ ?_ hH ?_
              rotate_left
              · (intro w hSw; (try dsimp only at hSw); go_simp; try with_reducible rfl)
              simp only [LY]
              refine U_tk 3 54 ?_ ?_ hH ?_
              rotate_left
              · (intro w hSw; (try dsimp only at hSw); go_simp; try with_reducible rfl)
              simp only [LY]
              refine U_tk 4 55 ?_ ?_ hH ?_
              rotate_left
              · (intro w hSw; (try dsimp only at hSw); go_simp; try with_reducible rfl)
              simp only [LY]
              refine U_tk 6 57 ?_ ?_ hH ?_
              rotate_left
              · (intro w hSw; (try dsimp only at hSw); go_simp; try with_reducible rfl)
              simp only [LY]
              clear hH
              refine U_one (i := 5) (by kernel_rfl) rfl (fun K hK => ?_)
              go_simp
              (with_reducible refine (al_alike _ Otk.rows ho10 (tkS_pos HO1.out j (Nat.pos_of_ne_zero q11H.out) (by omega)) (lnx (by omega)) (by omega) rfl (SzL.at (SzL.app (tkS_sz HSZ.out j (by omega)) (HSZ.out j (by omega)))) rfl HQ2.out).mono ?_)
              rintro e w44 ⟨_, rfl, h12, hb⟩
              obtain ⟨sh12, ah12, nh12, ch12, Ah12, Nh12, Ch12, rfl⟩ := h12.shape
              replace hs := bStep hs hb
              replace Bllevel := Bllevel.mono hb
              replace hv := hv.mono hb
              replace Otk := Otk.mono PC.kept hb
              replace Oou := Oou.mono BC.kept hb
              replace ho10 := rowsJ PC.kept _ _ _ ho10 hb
              replace clevel_0 := cellK clevel_0 hb
              replace clevel_1 := cellK clevel_1 hb
              replace clevel_2 := cellK clevel_2 hb
              clear hb
              try go_wp2_with fail
              refine hK.out _ _ ⟨clevel_0, clevel_1, clevel_2⟩ (fun hH => ?_)
              clear hK K
              try simp only [LY]
              clear hH
              refine U_one (i := 7) (by kernel_rfl) rfl (fun K hK => ?_)
              go_simp
              (with_reducible refine (pCmp h12 hv (SzQ.fit (sq (by omega))) (SzQ.fit sv)).mono ?_)
              rintro e w45 ⟨rfl, hb⟩
              replace hs := bStep hs hb
              replace Bllevel := Bllevel.mono hb
              replace hv := hv.mono hb
              replace h12 := h12.mono hb
              replace Otk := Otk.mono PC.kept hb
              replace Oou := Oou.mono BC.kept hb
              replace ho10 := rowsJ PC.kept _ _ _ ho10 hb
              replace clevel_0 := cellK clevel_0 hb
              replace clevel_1 := cellK clevel_1 hb
              replace clevel_2 := cellK clevel_2 hb
              clear hb
              rw [← Hsg13.out]
              try go_wp2_with fail
              refine hK.out _ _ ⟨clevel_0, clevel_1, clevel_2⟩ (fun hH => ?_)
              clear hK K
              try simp only [LY]
              refine U_tk 8 59 ?_ ?_ hH ?_
              rotate_left
              · (intro w hSw; (try dsimp only at hSw); go_simp; try with_reducible rfl)
              simp only [LY]
              refine U_tk 9 60 ?_ ?_ hH ?_
              rotate_left
              · (intro w hSw; (try dsimp only at hSw); go_simp; try with_reducible rfl)
              simp only [LY]
              refine U_tk 10 14 ?_ ?_ hH ?_
              rotate_left
              · (intro w hSw; (try dsimp only at hSw); go_simp; try with_reducible rfl)
              simp only [LY]
              clear hH
              refine U_endN (by kernel_rfl) ?_
              clear clevel_0 clevel_1 clevel_2
              go_wp2_with (at_builtin; refine wpList.stop ?_)
              refine ⟨?_⟩
              refine wpList.abs ?_
              intro w46 hW
              have hG : Gr [] w45 w46 := by rw [hW]; exact (Gr.refl _ _).alloc
              have hbw : Below w22.heap.size w45 w46 := hG.below0 hs.size
              have hk : KeepD w45 w46 := hG.keep True.intro
              have sz_w46 : w22.heap.size ≤ w45.heap.size := hs.size
              have nlevel_w46 : w.heap.size < w45.heap.size := Bllevel.lt
              have Blls : Bx w46 (w45.heap.size) 4 #[.bool false] := by rw [hW]; exact (Bx.new0 _ _ _)
              replace hs := hs.trans hbw
              replace ho10 := rowsJ PC.kept _ _ _ ho10 (hG.below0 (Nat.le_refl _))
              replace Bllevel := hG.bx Bllevel notMem0
              replace hv := hv.keep hk
              replace h12 := h12.keep hk
              replace Otk := Otk.mono PC.kept (hG.below0 (Nat.le_refl _))
              replace Oou := Oou.mono BC.kept (hG.below0 (Nat.le_refl _))
              clear hW hG hk hbw
              have hz_w46 : w45.heap.size < w46.heap.size := Blls.lt
              obtain ⟨css, ho1, ho2, ho3, hown0⟩ := Oou
              refine wpList_append_lies _ rfl _ _ _ rfl w22.heap.size 4 j0 _ 1 1 Tryz.underlying73 hj hy0 hy1 hy2 rfl (by omega) _ _ css.flatten rfl hown0 ⟨w45.heap.size, 0, none⟩ 1 1 [.bool false] rfl rfl Blls.news ?_ (by omega) ?_ ?_ ?_ _ rfl ?_
              · intro u hu; simp only [List.mem_cons, List.mem_nil_iff, or_false] at hu; rcases hu with rfl <;> rfl
              · unfold maxLen; (try simp only [List.length_append, List.length_cons, List.length_nil]); omega
              · (try simp only [List.length_append, List.length_cons, List.length_nil]); omega
              · exact hs.size
              intro gou capou w47 hown1 hgrow hat hlt_
              have hk_ := KeepD.owns hown0 hgrow (by decide)
              have ho := owns_onlyT hown0 hgrow
              replace hs := hs.grown hgrow hs.size (fun k hk => (hown0.lt k hk).1)
              replace Oou := OwnR.push' BC.kept ho1 ho2 ho3 (x := false) rfl rfl (by simp) hown1 hk_
              replace Bllevel := Bllevel.only ho (by decide)
              replace hv := hv.keep hk_
              replace h12 := h12.keep hk_
              replace ho10 := ho10.onlyT PC.kept ho (by decide) (by decide)
              replace Otk := Otk.onlyT PC.kept ho (by decide) (by decide)
              clear hk_ ho ho1 ho2 ho3 hown0 hown1 hgrow hat hlt_ Blls
              go_wp2
              go_roundw
              case rel => exact ⟨j + 1, by omega, by go_num, hs, Bllevel, hv, (by rw [tkS_no q11H.out (show ¬ lev ≤ alA (tkS lev L j) (nthL L j) from by rw [HQ.out]; exact q14H.out)]; exact Otk), (by rw [okS_no q11H.out (show ¬ lev ≤ alA (tkS lev L j) (nthL L j) from by rw [HQ.out]; exact q14H.out)]; exact Oou)⟩
              all_goals first | (simp [intOf]; done) | (simp [intOf]; omega)
        · have q8d : ((j : Int) < (L.length : Int)) = False := eq_false (by omega)
          obtain rfl : j = L.length := by omega
          have hR := Oou.rows
          clear Oou Otk
          replace hs := bStep HB0_7.out hs
          go_wp2
          go_ret2
          exact ⟨_, _, rfl, hR, rfl, hs⟩

set_option maxRecDepth 100000 in
set_option maxHeartbeats 8000000 in
theorem r8_Pool_few {v vl : Value} {L : List (List Rat)} {lev : Rat} (w : World) (hl : Rows 1 47 (LR 3 36 RC) w v L) (hv : RV w vl lev) (sv : Mid lev) (h1 : L.length < 1) : Calls Tryz.prog 32 #[v, vl] w (RetV w (.tuple #[.slice none 0 0, .int .i64 4])) := by
  obtain ⟨ao, cap, rfl, hc1, hc2, hc3⟩ := hl.slice
  obtain ⟨shv, ahv, nhv, chv, Ahv, Nhv, Chv, rfl⟩ := hv.shape
  have hs := Below.refl w.heap.size w
  have HL := Lib.hid hl
  clear hl
  go_enter Tryz.func32, Tryz.ntmps32
  have q1 : L.length < 1 := (by omega)
  have q1d : ((L.length : Int) < 1) = True := eq_true (by omega)
  go_wp2
  refine bodyPost.abs ?_
  intro w1 hW
  have hG : Gr [] w w1 := by rw [hW]; exact (Gr.refl _ _).alloc
  have hbw : Below w.heap.size w w1 := hG.below0 hs.size
  have hk : KeepD w w1 := hG.keep True.intro
  have sz_w1 : w.heap.size ≤ w.heap.size := hs.size
  have Bllevel : Bx w1 (w.heap.size) 36 #[.bool shv, .slice ahv nhv chv, .slice Ahv Nhv Chv] := by rw [hW]; exact (Bx.new0 _ _ _)
  replace hs := hs.trans hbw
  replace hv := hv.keep hk
  clear hW hG hk hbw
  have hz_w1 : w.heap.size < w1.heap.size := Bllevel.lt
  go_ret2
  exact ⟨rfl, hs⟩

set_option maxRecDepth 100000 in
set_option maxHeartbeats 8000000 in
theorem r8_Pool_many {v vl : Value} {L : List (List Rat)} {lev : Rat} (w : World) (hl : Rows 1 47 (LR 3 36 RC) w v L) (hv : RV w vl lev) (sv : Mid lev) (h1 : 16 < L.length) : Calls Tryz.prog 32 #[v, vl] w (RetV w (.tuple #[.slice none 0 0, .int .i64 4])) := by
  obtain ⟨ao, cap, rfl, hc1, hc2, hc3⟩ := hl.slice
  obtain ⟨shv, ahv, nhv, chv, Ahv, Nhv, Chv, rfl⟩ := hv.shape
  have hs := Below.refl w.heap.size w
  have HL := Lib.hid hl
  clear hl
  go_enter Tryz.func32, Tryz.ntmps32
  have q1 : ¬ (L.length < 1) := (by omega)
  have q1d : ((L.length : Int) < 1) = False := eq_false (by omega)
  have q2 : 16 < L.length := (by omega)
  have q2d : ((16 : Int) < (L.length : Int)) = True := eq_true (by omega)
  go_wp2
  refine bodyPost.abs ?_
  intro w1 hW
  have hG : Gr [] w w1 := by rw [hW]; exact (Gr.refl _ _).alloc
  have hbw : Below w.heap.size w w1 := hG.below0 hs.size
  have hk : KeepD w w1 := hG.keep True.intro
  have sz_w1 : w.heap.size ≤ w.heap.size := hs.size
  have Bllevel : Bx w1 (w.heap.size) 36 #[.bool shv, .slice ahv nhv chv, .slice Ahv Nhv Chv] := by rw [hW]; exact (Bx.new0 _ _ _)
  replace hs := hs.trans hbw
  replace hv := hv.keep hk
  clear hW hG hk hbw
  have hz_w1 : w.heap.size < w1.heap.size := Bllevel.lt
  go_ret2
  exact ⟨rfl, hs⟩

set_option maxRecDepth 100000 in
set_option maxHeartbeats 8000000 in
theorem r8_Pool_e2 {v vl : Value} {L : List (List Rat)} {lev : Rat} (w : World) (hl : Rows 1 47 (LR 3 36 RC) w v L) (hv : RV w vl lev) (sv : Mid lev) (h1 : 1 ≤ L.length) (h2 : L.length ≤ 16) (hn : ¬ allOk L L.length) : Calls Tryz.prog 32 #[v, vl] w (RetV w (.tuple #[.slice none 0 0, .int .i64 4])) := by
  obtain ⟨lb, lo, cap, rfl, hc1, hc2, -⟩ := hl.open_ (by omega)
  obtain ⟨shv, ahv, nhv, chv, Ahv, Nhv, Chv, rfl⟩ := hv.shape
  have hs := Below.refl w.heap.size w
  have HL := Lib.hid hl
  have HN := Lib.hid hn
  clear hl hn
  go_enter Tryz.func32, Tryz.ntmps32
  have q1 : ¬ (L.length < 1) := (by omega)
  have q1d : ((L.length : Int) < 1) = False := eq_false (by omega)
  have q2 : ¬ (16 < L.length) := (by omega)
  have q2d : ((16 : Int) < (L.length : Int)) = False := eq_false (by omega)
  go_wp2
  refine Code.abs ?_
  intro w1 hW
  have hG : Gr [] w w1 := by rw [hW]; exact (Gr.refl _ _).alloc
  have hbw : Below w.heap.size w w1 := hG.below0 hs.size
  have hk : KeepD w w1 := hG.keep True.intro
  have sz_w1 : w.heap.size ≤ w.heap.size := hs.size
  have Bllevel : Bx w1 (w.heap.size) 36 #[.bool shv, .slice ahv nhv chv, .slice Ahv Nhv Chv] := by rw [hW]; exact (Bx.new0 _ _ _)
  replace hs := hs.trans hbw
  replace hv := hv.keep hk
  clear hW hG hk hbw
  have hz_w1 : w.heap.size < w1.heap.size := Bllevel.lt
  go_loopw [6, 7] (fun s6 s7 wq => ∃ k : Nat, k ≤ L.length ∧ s7 = .int .i64 k ∧ s6 = .int .i64 (((lenS L k : Nat) : Int)) ∧ Below w.heap.size w wq ∧ Bx wq (w.heap.size) 36 #[.bool shv, .slice ahv nhv chv, .slice Ahv Nhv Chv] ∧ RV wq (.agg #[.bool shv, .slice ahv nhv chv, .slice Ahv Nhv Chv]) (lev) ∧ (allOk L k)) (fun s6 s7 _ => L.length - (intOf s7).toNat)
  case atStart => exact ⟨0, Nat.zero_le _, rfl, rfl, hs, Bllevel, hv, allOk.zero L⟩
  case round =>
    clear Bllevel hv hs
    obtain ⟨k, k_le, rfl, rfl, hs, Bllevel, hv, HK⟩ := hrel
    replace HK := Lib.hid HK
    have nk := lenS_ok HK.out (show k ≤ L.length from k_le)
    by_cases q3 : k < L.length
    · have q3d : ((k : Int) < (L.length : Int)) = True := eq_true (by omega)
      have BI4a : k < L.length := by omega
      have BI4b : ((k : Int) : Int) < (L.length : Int) := by omega
      obtain ⟨ao5, ko5, Eo5, -, -, ho5, lo5⟩ := rowL_at (HL.out.monoB (LR.keptB RC.kept) hs) (nthL_some (show k < L.length by omega))
      go_wp2_with fail
      clear lo5 Eo5
      with_reducible refine (r8_chV_all (e := chE (nthL L k)) _ ho5 rfl).mono ?_
      rintro e w22 ⟨rfl, hb⟩
      replace hs := bStep hs hb
      replace Bllevel := Bllevel.mono hb
      replace hv := hv.mono hb
      replace ho5 := rowsJ RC.kept _ _ _ ho5 hb
      clear hb
      obtain ⟨sg6, Hsg6⟩ : ∃ s : Int, s = chE (nthL L k) := ⟨_, rfl⟩
      rw [← Hsg6]
      replace Hsg6 := Lib.hid Hsg6
      by_cases q7 : sg6 = 0
      · have q7b : (sg6 == 0) = true := beq_iff_eq.2 (by omega)
        have q7n : (sg6 != 0) = false := bne_eq_false_iff_eq.2 (by omega)
        have q7H := Lib.hid q7
        clear q7
        have nxsg6 := (chE_zero (Hsg6.out.symm.trans q7H.out)).2
        obtain ⟨ao8, ko8, Eo8, -, -, ho8, lo8⟩ := rowL_at (HL.out.monoB (LR.keptB RC.kept) hs) (nthL_some (show k < L.length by omega))
        go_wp2
        go_roundw
        case rel => exact ⟨k + 1, by omega, by go_num, (congrArg _ (show ((lenS L k : Nat) : Int) + (((nthL L k).length : Nat) : Int) = ((lenS L (k + 1) : Nat) : Int) from by show _ = ((lenS L k + (nthL L k).length : Nat) : Int); omega)), hs, Bllevel, hv, (allOk.next HK.out (Hsg6.out.symm.trans q7H.out))⟩
        all_goals first | (simp [intOf]; done) | (simp [intOf]; omega)
      · have q7b : (sg6 == 0) = false := beq_eq_false_iff_ne.2 (by omega)
        have q7n : (sg6 != 0) = true := bne_iff_ne.2 (by omega)
        have q7H := Lib.hid q7
        clear q7
        have nfsg6 := (show sg6 = 4 from Hsg6.out.trans (chE_four (fun e_ => q7H.out (Hsg6.out.trans e_))))
        go_wp2
        go_ret2
        exact ⟨(by first | rfl | rw [nfsg6]), hs⟩
    · have q3d : ((k : Int) < (L.length : Int)) = False := eq_false (by omega)
      exact absurd (show allOk L L.length from (show k = L.length from by omega) ▸ HK.out) HN.out

set_option maxRecDepth 100000 in
set_option maxHeartbeats 8000000 in
theorem r8_Pool_e3 {v vl : Value} {L : List (List Rat)} {lev : Rat} (w : World) (hl : Rows 1 47 (LR 3 36 RC) w v L) (hv : RV w vl lev) (sv : Mid lev) (h1 : 1 ≤ L.length) (h2 : L.length ≤ 16) (ha : allOk L L.length) (h3 : 64 < lenS L L.length) : Calls Tryz.prog 32 #[v, vl] w (RetV w (.tuple #[.slice none 0 0, .int .i64 4])) := by
  obtain ⟨lb, lo, cap, rfl, hc1, hc2, -⟩ := hl.open_ (by omega)
  obtain ⟨shv, ahv, nhv, chv, Ahv, Nhv, Chv, rfl⟩ := hv.shape
  have hs := Below.refl w.heap.size w
  have HL := Lib.hid hl
  have HA := Lib.hid ha
  clear hl ha
  go_enter Tryz.func32, Tryz.ntmps32
  have q1 : ¬ (L.length < 1) := (by omega)
  have q1d : ((L.length : Int) < 1) = False := eq_false (by omega)
  have q2 : ¬ (16 < L.length) := (by omega)
  have q2d : ((16 : Int) < (L.length : Int)) = False := eq_false (by omega)
  go_wp2
  refine Code.abs ?_
  intro w1 hW
  have hG : Gr [] w w1 := by rw [hW]; exact (Gr.refl _ _).alloc
  have hbw : Below w.heap.size w w1 := hG.below0 hs.size
  have hk : KeepD w w1 := hG.keep True.intro
  have sz_w1 : w.heap.size ≤ w.heap.size := hs.size
  have Bllevel : Bx w1 (w.heap.size) 36 #[.bool shv, .slice ahv nhv chv, .slice Ahv Nhv Chv] := by rw [hW]; exact (Bx.new0 _ _ _)
  replace hs := hs.trans hbw
  replace hv := hv.keep hk
  clear hW hG hk hbw
  have hz_w1 : w.heap.size < w1.heap.size := Bllevel.lt
  go_loopw [6, 7] (fun s6 s7 wq => ∃ k : Nat, k ≤ L.length ∧ s7 = .int .i64 k ∧ s6 = .int .i64 (((lenS L k : Nat) : Int)) ∧ Below w.heap.size w wq ∧ Bx wq (w.heap.size) 36 #[.bool shv, .slice ahv nhv chv, .slice Ahv Nhv Chv] ∧ RV wq (.agg #[.bool shv, .slice ahv nhv chv, .slice Ahv Nhv Chv]) (lev)) (fun s6 s7 _ => L.length - (intOf s7).toNat)
  case atStart => exact ⟨0, Nat.zero_le _, rfl, rfl, hs, Bllevel, hv⟩
  case round =>
    clear Bllevel hv hs
    obtain ⟨k, k_le, rfl, rfl, hs, Bllevel, hv⟩ := hrel
    have nk := lenS_all HA.out k_le
    have nj : k < L.length → (nthL L k).length ≤ 64 := fun h_ => (chE_zero (allOk.at HA.out k h_)).2
    by_cases q3 : k < L.length
    · have q3d : ((k : Int) < (L.length : Int)) = True := eq_true (by omega)
      have BI4a : k < L.length := by omega
      have BI4b : ((k : Int) : Int) < (L.length : Int) := by omega
      obtain ⟨ao5, ko5, Eo5, -, -, ho5, lo5⟩ := rowL_at (HL.out.monoB (LR.keptB RC.kept) hs) (nthL_some (show k < L.length by omega))
      go_wp2_with fail
      clear lo5 Eo5
      with_reducible refine (r8_chV_all (e := 0) _ ho5 (allOk.ifz HA.out k (by omega))).mono ?_
      rintro e w22 ⟨rfl, hb⟩
      replace hs := bStep hs hb
      replace Bllevel := Bllevel.mono hb
      replace hv := hv.mono hb
      replace ho5 := rowsJ RC.kept _ _ _ ho5 hb
      clear hb
      obtain ⟨ao6, ko6, Eo6, -, -, ho6, lo6⟩ := rowL_at (HL.out.monoB (LR.keptB RC.kept) hs) (nthL_some (show k < L.length by omega))
      go_wp2
      go_roundw
      case rel => exact ⟨k + 1, by omega, by go_num, (congrArg _ (show ((lenS L k : Nat) : Int) + (((nthL L k).length : Nat) : Int) = ((lenS L (k + 1) : Nat) : Int) from by show _ = ((lenS L k + (nthL L k).length : Nat) : Int); omega)), hs, Bllevel, hv⟩
      all_goals first | (simp [intOf]; done) | (simp [intOf]; omega)
    · have q3d : ((k : Int) < (L.length : Int)) = False := eq_false (by omega)
      obtain rfl : k = L.length := by omega
      have q4 : 64 < (lenS L L.length : Nat) := (by omega)
      have q4d : ((64 : Int) < ((lenS L L.length : Nat) : Int)) = True := eq_true (by omega)
      go_wp2
      go_ret2
      exact ⟨rfl, hs⟩

set_option maxRecDepth 100000 in
set_option maxHeartbeats 8000000 in
theorem r8_Pool_e4 {v vl : Value} {L : List (List Rat)} {lev : Rat} (w : World) (hl : Rows 1 47 (LR 3 36 RC) w v L) (hv : RV w vl lev) (sv : Mid lev) (h1 : 1 ≤ L.length) (h2 : L.length ≤ 16) (ha : allOk L L.length) (h3 : lenS L L.length ≤ 64) (hc : ¬ (0 ≤ lev ∧ lev ≤ 1)) : Calls Tryz.prog 32 #[v, vl] w (RetV w (.tuple #[.slice none 0 0, .int .i64 1])) := by
  obtain ⟨lb, lo, cap, rfl, hc1, hc2, -⟩ := hl.open_ (by omega)
  obtain ⟨shv, ahv, nhv, chv, Ahv, Nhv, Chv, rfl⟩ := hv.shape
  have hs := Below.refl w.heap.size w
  have HL := Lib.hid hl
  have HA := Lib.hid ha
  have HC := Lib.hid hc
  clear hl ha hc
  go_enter Tryz.func32, Tryz.ntmps32
  have q1 : ¬ (L.length < 1) := (by omega)
  have q1d : ((L.length : Int) < 1) = False := eq_false (by omega)
  have q2 : ¬ (16 < L.length) := (by omega)
  have q2d : ((16 : Int) < (L.length : Int)) = False := eq_false (by omega)
  go_wp2
  refine Code.abs ?_
  intro w1 hW
  have hG : Gr [] w w1 := by rw [hW]; exact (Gr.refl _ _).alloc
  have hbw : Below w.heap.size w w1 := hG.below0 hs.size
  have hk : KeepD w w1 := hG.keep True.intro
  have sz_w1 : w.heap.size ≤ w.heap.size := hs.size
  have Bllevel : Bx w1 (w.heap.size) 36 #[.bool shv, .slice ahv nhv chv, .slice Ahv Nhv Chv] := by rw [hW]; exact (Bx.new0 _ _ _)
  replace hs := hs.trans hbw
  replace hv := hv.keep hk
  clear hW hG hk hbw
  have hz_w1 : w.heap.size < w1.heap.size := Bllevel.lt
  go_loopw [6, 7] (fun s6 s7 wq => ∃ k : Nat, k ≤ L.length ∧ s7 = .int .i64 k ∧ s6 = .int .i64 (((lenS L k : Nat) : Int)) ∧ Below w.heap.size w wq ∧ Bx wq (w.heap.size) 36 #[.bool shv, .slice ahv nhv chv, .slice Ahv Nhv Chv] ∧ RV wq (.agg #[.bool shv, .slice ahv nhv chv, .slice Ahv Nhv Chv]) (lev)) (fun s6 s7 _ => L.length - (intOf s7).toNat)
  case atStart => exact ⟨0, Nat.zero_le _, rfl, rfl, hs, Bllevel, hv⟩
  case round =>
    clear Bllevel hv hs
    obtain ⟨k, k_le, rfl, rfl, hs, Bllevel, hv⟩ := hrel
    have nk := lenS_all HA.out k_le
    have nj : k < L.length → (nthL L k).length ≤ 64 := fun h_ => (chE_zero (allOk.at HA.out k h_)).2
    by_cases q3 : k < L.length
    · have q3d : ((k : Int) < (L.length : Int)) = True := eq_true (by omega)
      have BI4a : k < L.length := by omega
      have BI4b : ((k : Int) : Int) < (L.length : Int) := by omega
      obtain ⟨ao5, ko5, Eo5, -, -, ho5, lo5⟩ := rowL_at (HL.out.monoB (LR.keptB RC.kept) hs) (nthL_some (show k < L.length by omega))
      go_wp2_with fail
      clear lo5 Eo5
      with_reducible refine (r8_chV_all (e := 0) _ ho5 (allOk.ifz HA.out k (by omega))).mono ?_
      rintro e w22 ⟨rfl, hb⟩
      replace hs := bStep hs hb
      replace Bllevel := Bllevel.mono hb
      replace hv := hv.mono hb
      replace ho5 := rowsJ RC.kept _ _ _ ho5 hb
      clear hb
      obtain ⟨ao6, ko6, Eo6, -, -, ho6, lo6⟩ := rowL_at (HL.out.monoB (LR.keptB RC.kept) hs) (nthL_some (show k < L.length by omega))
      go_wp2
      go_roundw
      case rel => exact ⟨k + 1, by omega, by go_num, (congrArg _ (show ((lenS L k : Nat) : Int) + (((nthL L k).length : Nat) : Int) = ((lenS L (k + 1) : Nat) : Int) from by show _ = ((lenS L k + (nthL L k).length : Nat) : Int); omega)), hs, Bllevel, hv⟩
      all_goals first | (simp [intOf]; done) | (simp [intOf]; omega)
    · have q3d : ((k : Int) < (L.length : Int)) = False := eq_false (by omega)
      obtain rfl : k = L.length := by omega
      have q4 : ¬ (64 < (lenS L L.length : Nat)) := (by omega)
      have q4d : ((64 : Int) < ((lenS L L.length : Nat) : Int)) = False := eq_false (by omega)
      have clevel_0 : wr.cell? ⟨w.heap.size, 0, none⟩ = some (.bool shv) := Bllevel.at 0 rfl
      have clevel_1 : wr.cell? ⟨w.heap.size, 1, none⟩ = some (.slice ahv nhv chv) := Bllevel.at 1 rfl
      have clevel_2 : wr.cell? ⟨w.heap.size, 2, none⟩ = some (.slice Ahv Nhv Chv) := Bllevel.at 2 rfl
      have Llevel : w.heap.size < wr.heap.size := Bllevel.lt
      go_wp2_with fail
      clear clevel_0 clevel_1 clevel_2 Llevel
      with_reducible refine (r8_Chance _ _ _ hv sv rfl).mono ?_
      rintro e w22 ⟨rfl, hb⟩
      replace hs := bStep hs hb
      replace Bllevel := Bllevel.mono hb
      replace hv := hv.mono hb
      clear hb
      obtain ⟨b5, Hb5⟩ : ∃ b : Bool, b = decide (0 ≤ lev ∧ lev ≤ 1) := ⟨_, rfl⟩
      rw [← Hb5]
      replace Hb5 := Lib.hid Hb5
      have q6 : ¬ (0 ≤ lev ∧ lev ≤ 1) := HC.out
      obtain rfl : b5 = false := by rw [Hb5.out]; exact decide_eq_false q6
      have q6H := Lib.hid q6
      clear q6
      go_wp2
      go_ret2
      exact ⟨rfl, hs⟩

set_option maxRecDepth 100000 in
set_option maxHeartbeats 8000000 in
theorem r8_Pool_ok {v vl : Value} {L : List (List Rat)} {lev : Rat} (w : World) (hl : Rows 1 47 (LR 3 36 RC) w v L) (hv : RV w vl lev) (sv : Mid lev) (h1 : 1 ≤ L.length) (h2 : L.length ≤ 16) (ha : allOk L L.length) (h3 : lenS L L.length ≤ 12) (hc : 0 ≤ lev ∧ lev ≤ 1) (hsz : ∀ i, i < L.length → SzL (nthL L i)) (ho : ∀ i, i < L.length → 1 ≤ (nthL L i).length) : Calls Tryz.prog 32 #[v, vl] w (Ret2 (fun w v => Rows 1 4 BC w v (okS lev L L.length)) (fun _ v => v = .int .i64 0) w) := by
  obtain ⟨lb, lo, cap, rfl, hc1, hc2, -⟩ := hl.open_ (by omega)
  obtain ⟨shv, ahv, nhv, chv, Ahv, Nhv, Chv, rfl⟩ := hv.shape
  have hs := Below.refl w.heap.size w
  have HL := Lib.hid hl
  have HA := Lib.hid ha
  have HC := Lib.hid hc
  have HSZ := Lib.hid hsz
  have HO1 := Lib.hid ho
  clear hl ha hc hsz ho
  obtain ⟨i0, hi, hz0, hz1, hz2⟩ := info_parts rR_info
  obtain ⟨j0, hj, hy0, hy1, hy2⟩ := info_parts bool_info8
  go_enter Tryz.func32, Tryz.ntmps32
  have q1 : ¬ (L.length < 1) := (by omega)
  have q1d : ((L.length : Int) < 1) = False := eq_false (by omega)
  have q2 : ¬ (16 < L.length) := (by omega)
  have q2d : ((16 : Int) < (L.length : Int)) = False := eq_false (by omega)
  go_wp2
  refine Code.abs ?_
  intro w1 hW
  have hG : Gr [] w w1 := by rw [hW]; exact (Gr.refl _ _).alloc
  have hbw : Below w.heap.size w w1 := hG.below0 hs.size
  have hk : KeepD w w1 := hG.keep True.intro
  have sz_w1 : w.heap.size ≤ w.heap.size := hs.size
  have Bllevel : Bx w1 (w.heap.size) 36 #[.bool shv, .slice ahv nhv chv, .slice Ahv Nhv Chv] := by rw [hW]; exact (Bx.new0 _ _ _)
  replace hs := hs.trans hbw
  replace hv := hv.keep hk
  clear hW hG hk hbw
  have hz_w1 : w.heap.size < w1.heap.size := Bllevel.lt
  go_loopw [6, 7] (fun s6 s7 wq => ∃ k : Nat, k ≤ L.length ∧ s7 = .int .i64 k ∧ s6 = .int .i64 (((lenS L k : Nat) : Int)) ∧ Below w.heap.size w wq ∧ Bx wq (w.heap.size) 36 #[.bool shv, .slice ahv nhv chv, .slice Ahv Nhv Chv] ∧ RV wq (.agg #[.bool shv, .slice ahv nhv chv, .slice Ahv Nhv Chv]) (lev)) (fun s6 s7 _ => L.length - (intOf s7).toNat)
  case atStart => exact ⟨0, Nat.zero_le _, rfl, rfl, hs, Bllevel, hv⟩
  case round =>
    clear Bllevel hv hs
    obtain ⟨k, k_le, rfl, rfl, hs, Bllevel, hv⟩ := hrel
    have nk := lenS_all HA.out k_le
    have nj : k < L.length → (nthL L k).length ≤ 64 := fun h_ => (chE_zero (allOk.at HA.out k h_)).2
    by_cases q3 : k < L.length
    · have q3d : ((k : Int) < (L.length : Int)) = True := eq_true (by omega)
      have BI4a : k < L.length := by omega
      have BI4b : ((k : Int) : Int) < (L.length : Int) := by omega
      obtain ⟨ao5, ko5, Eo5, -, -, ho5, lo5⟩ := rowL_at (HL.out.monoB (LR.keptB RC.kept) hs) (nthL_some (show k < L.length by omega))
      have lno5 := HO1.out k (show k < L.length by omega)
      obtain ⟨bo5, oo5, co5, hv_, -, -, -⟩ := ho5.open_ (by omega)
      injection hv_ with e1_ e2_ e3_
      subst e1_ e3_
      clear e2_
      go_wp2_with fail
      clear lo5 Eo5
      with_reducible refine (r8_chV_all (e := 0) _ ho5 (allOk.ifz HA.out k (by omega))).mono ?_
      rintro e w22 ⟨rfl, hb⟩
      replace hs := bStep hs hb
      replace Bllevel := Bllevel.mono hb
      replace hv := hv.mono hb
      replace ho5 := rowsJ RC.kept _ _ _ ho5 hb
      clear hb
      obtain ⟨ao6, ko6, Eo6, -, -, ho6, lo6⟩ := rowL_at (HL.out.monoB (LR.keptB RC.kept) hs) (nthL_some (show k < L.length by omega))
      have lno6 := HO1.out k (show k < L.length by omega)
      obtain ⟨bo6, oo6, co6, hv_, -, -, -⟩ := ho6.open_ (by omega)
      injection hv_ with e1_ e2_ e3_
      subst e1_ e3_
      clear e2_
      go_wp2
      go_roundw
      case rel => exact ⟨k + 1, by omega, by go_num, (congrArg _ (show ((lenS L k : Nat) : Int) + (((nthL L k).length : Nat) : Int) = ((lenS L (k + 1) : Nat) : Int) from by show _ = ((lenS L k + (nthL L k).length : Nat) : Int); omega)), hs, Bllevel, hv⟩
      all_goals first | (simp [intOf]; done) | (simp [intOf]; omega)
    · have q3d : ((k : Int) < (L.length : Int)) = False := eq_false (by omega)
      obtain rfl : k = L.length := by omega
      have q4 : ¬ (64 < (lenS L L.length : Nat)) := (by omega)
      have q4d : ((64 : Int) < ((lenS L L.length : Nat) : Int)) = False := eq_false (by omega)
      have clevel_0 : wr.cell? ⟨w.heap.size, 0, none⟩ = some (.bool shv) := Bllevel.at 0 rfl
      have clevel_1 : wr.cell? ⟨w.heap.size, 1, none⟩ = some (.slice ahv nhv chv) := Bllevel.at 1 rfl
      have clevel_2 : wr.cell? ⟨w.heap.size, 2, none⟩ = some (.slice Ahv Nhv Chv) := Bllevel.at 2 rfl
      have Llevel : w.heap.size < wr.heap.size := Bllevel.lt
      go_wp2_with fail
      clear clevel_0 clevel_1 clevel_2 Llevel
      with_reducible refine (r8_Chance _ _ _ hv sv rfl).mono ?_
      rintro e w22 ⟨rfl, hb⟩
      replace hs := bStep hs hb
      replace Bllevel := Bllevel.mono hb
      replace hv := hv.mono hb
      clear hb
      obtain ⟨b5, Hb5⟩ : ∃ b : Bool, b = decide (0 ≤ lev ∧ lev ≤ 1) := ⟨_, rfl⟩
      rw [← Hb5]
      replace Hb5 := Lib.hid Hb5
      have q6 : 0 ≤ lev ∧ lev ≤ 1 := HC.out
      obtain rfl : b5 = true := by rw [Hb5.out]; exact decide_eq_true q6
      have q6H := Lib.hid q6
      clear q6
      go_wp2_with (at_make; refine wpList.stop ?_)
      refine ⟨?_⟩
      refine wpList_make_full _ rfl _ _ _ rfl w.heap.size 4 j0 _ 1 Tryz.underlying73 hj hy0 hy1 _ _ _ _ (L.length) rfl rfl (by omega) (by omega) (by rw [hy2]; omega) (by unfold maxLen; omega) hs.size ?_
      intro w23 hown hgrow
      have hb : Below w22.heap.size w22 w23 := (Below.refl _ _).grown hgrow (Nat.le_refl _) (fun k hk => by cases hk)
      have hv_vo : w.heap.size ≤ w22.heap.size := hs.size
      have nlevel_w23 : w.heap.size < w22.heap.size := Bllevel.lt
      replace hs := bStep hs hb
      replace Bllevel := Bllevel.mono hb
      replace hv := hv.mono hb
      clear hb
      have Vvo : VecR 4 1 BC w23 (w22.heap.size) (okR lev L 0) := by rw [← okR_zero]; exact VecR.made1 hown (by omega) rfl
      clear hown hgrow
      have Lv_vo : w22.heap.size < w23.heap.size := Vvo.lt
      go_wp2
      go_loopw [10, 11] (fun s10 s11 wq => ∃ j : Nat, j ≤ L.length ∧ s11 = .int .i64 j ∧ Below w.heap.size w wq ∧ Bx wq (w.heap.size) 36 #[.bool shv, .slice ahv nhv chv, .slice Ahv Nhv Chv] ∧ RV wq (.agg #[.bool shv, .slice ahv nhv chv, .slice Ahv Nhv Chv]) (lev) ∧ Rows 3 36 RC wq s10 (tkS lev L j) ∧ (j = 0 → s10 = .slice none 0 0) ∧ (VecR 4 1 BC wq (w22.heap.size) (okR lev L j))) (fun s10 s11 _ => L.length - (intOf s11).toNat)
      case atStart => exact ⟨0, Nat.zero_le _, rfl, hs, Bllevel, hv, Rows.nil_ _, (fun _ => rfl), Vvo⟩
      case round =>
        clear Bllevel hv hs
        obtain ⟨j, j_le, rfl, hs, Bllevel, hv, htk, H0, Vvo⟩ := hrel
        replace H0 := Lib.hid H0
        replace Vvo := Lib.hid Vvo
        obtain ⟨ahtk, khtk, rfl, htk1, htk2, -⟩ := htk.toI.slice
        replace Vvo := Vvo.out
        have okl := okR_len lev L j_le
        have tkl := tkS_len lev L j
        have lk1 : j < L.length → lenS L j + (nthL L j).length ≤ lenS L L.length := len_one
        have lk2 : lenS L j ≤ lenS L L.length := lenS_mono L j_le
        have lnx : j < L.length → 1 ≤ (nthL L j).length := HO1.out j
        obtain ⟨q, HQ⟩ : ∃ q : Rat, alA (tkS lev L j) (nthL L j) = q := ⟨_, rfl⟩
        have sq : j < L.length → SzQ 1 q := fun h_ => HQ ▸ alA_sz (by omega)
        have HQ2 := Lib.hid (show alkQ (rkT (tkS lev L j ++ nthL L j) (tkS lev L j ++ nthL L j).length) (tkS lev L j).length = q from HQ)
        replace HQ := Lib.hid HQ
        by_cases q7 : j < L.length
        · have q7d : ((j : Int) < (L.length : Int)) = True := eq_true (by omega)
          go_upto_region 20 with fail
          by_cases q8 : j = 0
          · have q8b : ((j : Int) == 0) = true := beq_iff_eq.2 (by omega)
            have q8n : ((j : Int) != 0) = false := bne_eq_false_iff_eq.2 (by omega)
            have q8H := Lib.hid q8
            clear q8
            refine U_region (S := fun w' => True) (by kernel_rfl) 13 ?_
            refine AnyU.abs ?_
            intro w44 hW
            have hb : Below wr.heap.size wr w44 := by rw [hW]; exact bDrew _
            replace hs := bStep hs hb
            replace Bllevel := Bllevel.mono hb
            replace hv := hv.mono hb
            replace htk := rowsJ RC.kept _ _ _ htk hb
            replace Vvo := VecR.mono BC.kept Vvo hb
            clear hb hW
            have hH := (show True from True.intro)
            refine U_tk 0 55 ?_ ?_ hH ?_
            rotate_left
            · (intro w hSw; (try dsimp only at hSw); go_simp; try with_reducible rfl)
            simp only [LY]
            refine U_tk 1 56 ?_ ?_ hH ?_
            rotate_left
            · (intro w hSw; (try dsimp only at hSw); go_simp; try with_reducible rfl)
            simp only [LY]
            refine U_tk 2 57 ?_ ?_ hH ?_
            rotate_left
            · (intro w hSw; (try dsimp only at hSw); go_simp; try with_reducible rfl)
            simp only [LY]
            refine U_tu 3 58 hH ?_
            simp only [LY]
            refine U_tu 4 59 hH ?_
            simp only [LY]
            refine U_tu 5 60 hH ?_
            simp only [LY]
            refine U_tu 6 61 hH ?_
            simp only [LY]
            refine U_tu 7 62 hH ?_
            simp only [LY]
            refine U_tu 9 64 hH ?_
            simp only [LY]
            clear hH
            refine U_one (i := 8) (by kernel_rfl) rfl (fun K hK => ?_)
            go_simp
            refine hK.out _ _ True.intro (fun hH => ?_)
            clear hK K
            try simp only [LY]
            clear hH
            refine U_one (i := 10) (by kernel_rfl) rfl (fun K hK => ?_)
            go_simp
            refine hK.out _ _ True.intro (fun hH => ?_)
            clear hK K
            try simp only [LY]
            refine U_tu 11 66 hH ?_
            simp only [LY]
            refine U_tk 12 67 ?_ ?_ hH ?_
            rotate_left
            · (intro w hSw; (try dsimp only at hSw); go_simp; try with_reducible rfl)
            simp only [LY]
            clear hH
            refine U_endN (by kernel_rfl) ?_
            have BI9a : j < L.length := by omega
            have BI9b : ((j : Int) : Int) < (L.length : Int) := by omega
            obtain ⟨Ee100, le10⟩ := vecB_at Vvo (show j < (okR lev L j).length by omega)
            obtain ⟨ie10, Hie10⟩ : ∃ z : Bool, z = nthB (okR lev L j) j := ⟨_, rfl⟩
            rw [← Hie10] at Ee100
            replace Hie10 := Lib.hid Hie10.symm
            have fVvo := Vvo.free
            have LVvo : w22.heap.size < w44.heap.size := Vvo.lt
            go_upto_region 22 with fail
            clear fVvo LVvo le10 Ee100
            refine Code.abs ?_
            intro w45 hW
            have hG : Gr [w22.heap.size] w44 w45 := by rw [hW]; exact (Gr.refl _ _).set
            have hsz := hs.size
            have hbw : Below w.heap.size w44 w45 := hG.below1 hs.size (by first | omega | assumption)
            have hk : KeepD w44 w45 := hG.keep ⟨⟨_, Vvo.ty, by decide⟩, True.intro⟩
            have V1vo : VecR 4 1 BC w45 (w22.heap.size) ((okR lev L j).set j (true)) := by rw [hW]; exact (Vvo.put1 BC.kept (show j < (okR lev L j).length by omega) (by decide) rfl ((Gr.refl _ _)))
            rw [okR_set (show j < L.length by omega) (by have e_ := q8H.out; subst e_; exact okS_first lev L)] at V1vo
            replace hs := hs.trans hbw
            replace htk := htk.onlyT RC.kept (hG.onlyT (by intro g hg; simp only [List.mem_cons, List.mem_nil_iff, or_false] at hg; rcases hg with rfl <;> first | exact Vvo.ty)) (by decide) (by decide)
            replace Bllevel := hG.bx Bllevel (notMem1 (by omega))
            replace Vvo := V1vo
            clear V1vo
            replace hv := hv.keep hk
            clear hW hG hk hbw hsz
            obtain ⟨ao11, ko11, Eo11, -, -, ho11, lo11⟩ := rowL_at (HL.out.monoB (LR.keptB RC.kept) hs) (nthL_some (show j < L.length by omega))
            have lno11 := HO1.out j (show j < L.length by omega)
            obtain ⟨bo11, oo11, co11, hv_, -, -, -⟩ := ho11.open_ (by omega)
            injection hv_ with e1_ e2_ e3_
            subst e1_ e3_
            clear e2_
            go_wp2_with fail
            clear lo11 Eo11
            with_reducible refine (r8_both0 _ htk ho11 (H0.out q8H.out) (by rw [q8H.out]; exact tkS_zero lev L) (lnx (by omega)) (by omega)).mono ?_
            rintro e w46 ⟨_, rfl, hb12, hb⟩
            obtain ⟨ahb12, khb12, rfl, hb121, hb122, -⟩ := hb12.toI.slice
            replace hs := bStep hs hb
            replace Bllevel := Bllevel.mono hb
            replace hv := hv.mono hb
            replace htk := rowsJ RC.kept _ _ _ htk hb
            replace Vvo := VecR.mono BC.kept Vvo hb
            replace ho11 := rowsJ RC.kept _ _ _ ho11 hb
            clear hb
            go_wp2
            go_roundw
            case rel => exact ⟨j + 1, by omega, by go_num, hs, Bllevel, hv, (by have e_ := q8H.out; subst e_; rw [tkS_first]; have h_ := hb12; rw [List.length_append] at h_; exact h_), (fun e_ => by omega), Vvo⟩
            all_goals first | (simp [intOf]; done) | (simp [intOf]; omega)
          · have q8b : ((j : Int) == 0) = false := beq_eq_false_iff_ne.2 (by omega)
            have q8n : ((j : Int) != 0) = true := bne_iff_ne.2 (by omega)
            have q8H := Lib.hid q8
            clear q8
            have BI9a : j < L.length := by omega
            have BI9b : ((j : Int) : Int) < (L.length : Int) := by omega
            obtain ⟨ao10, ko10, Eo10, -, -, ho10, lo10⟩ := rowL_at (HL.out.monoB (LR.keptB RC.kept) hs) (nthL_some (show j < L.length by omega))
            have lno10 := HO1.out j (show j < L.length by omega)
            obtain ⟨bo10, oo10, co10, hv_, -, -, -⟩ := ho10.open_ (by omega)
            injection hv_ with e1_ e2_ e3_
            subst e1_ e3_
            clear e2_
            obtain ⟨sg12, Hsg12⟩ : ∃ s : Int, s = sgQ (q - lev) := ⟨_, rfl⟩
            replace Hsg12 := Lib.hid Hsg12
            refine U_region (S := fun w' => w'.cell? ⟨w.heap.size, 0, none⟩ = some (.bool shv) ∧ w'.cell? ⟨w.heap.size, 1, none⟩ = some (.slice ahv nhv chv) ∧ w'.cell? ⟨w.heap.size, 2, none⟩ = some (.slice Ahv Nhv Chv) ∧ w'.cell? ⟨lb, lo + j, none⟩ = some (.slice (some ⟨bo10, oo10, none⟩) (nthL L j).length ko10)) (by kernel_rfl) 13 ?_
            refine AnyU.abs ?_
            intro w44 hW
            have hb : Below wr.heap.size wr w44 := by rw [hW]; exact bDrew _
            replace hs := bStep hs hb
            replace Bllevel := Bllevel.mono hb
            replace hv := hv.mono hb
            replace htk := rowsJ RC.kept _ _ _ htk hb
            replace Vvo := VecR.mono BC.kept Vvo hb
            replace ho10 := rowsJ RC.kept _ _ _ ho10 hb
            replace Eo10 := cellK Eo10 hb
            clear hb hW
            have clevel_0 : w44.cell? ⟨w.heap.size, 0, none⟩ = some (.bool shv) := Bllevel.at 0 rfl
            have clevel_1 : w44.cell? ⟨w.heap.size, 1, none⟩ = some (.slice ahv nhv chv) := Bllevel.at 1 rfl
            have clevel_2 : w44.cell? ⟨w.heap.size, 2, none⟩ = some (.slice Ahv Nhv Chv) := Bllevel.at 2 rfl
            have hH := (show w44.cell? ⟨w.heap.size, 0, none⟩ = some (.bool shv) ∧ w44.cell? ⟨w.heap.size, 1, none⟩ = some (.slice ahv nhv chv) ∧ w44.cell? ⟨w.heap.size, 2, none⟩ = some (.slice Ahv Nhv Chv) ∧ w44.cell? ⟨lb, lo + j, none⟩ = some (.slice (some ⟨bo10, oo10, none⟩) (nthL L j).length ko10) from ⟨clevel_0, clevel_1, clevel_2, Eo10⟩)
            refine U_tk 0 55 ?_ ?_ hH ?_
            rotate_left
            · (intro w hSw; (try dsimp only at hSw); go_simp; try with_reducible rfl)
            simp only [LY]
            refine U_tk 1 56 ?_ ?_ hH ?_
            rotate_left
            · (intro w hSw; (try dsimp only at hSw); go_simp; try with_reducible rfl)
            simp only [LY]
            refine U_tk 2 57 ?_ ?_ hH ?_
            rotate_left
            · (intro w hSw; (try dsimp only at hSw); go_simp; try with_reducible rfl)
            simp only [LY]
            refine U_tk 3 58 ?_ ?_ hH ?_
            rotate_left
            · (intro w hSw; (try dsimp only at hSw); go_simp; try with_reducible rfl)
            simp only [LY]
            refine U_tk 4 59 ?_ ?_ hH ?_
            rotate_left
            · (intro w hSw; (try dsimp only at hSw); go_simp; try with_reducible rfl)
            simp only [LY]
            refine U_tk 5 60 ?_ ?_ hH ?_
            rotate_left
            · (intro w hSw; (try dsimp only at hSw); go_simp; try with_reducible rfl)
            simp only [LY]
            refine U_tk 6 61 ?_ ?_ hH ?_
            rotate_left
            · (intro w hSw; (try dsimp only at hSw); go_simp; try with_reducible rfl)
            simp only [LY]
            refine U_tk 7 62 ?_ ?_ hH ?_
            rotate_left
            · (intro w hSw; (try dsimp only at hSw); go_simp; try with_reducible rfl)
            simp only [LY]
            refine U_tk 9 64 ?_ ?_ hH ?_
            rotate_left
            · (intro w hSw; (try dsimp only at hSw); go_simp; try with_reducible rfl)
            simp only [LY]
            clear hH
            refine U_one (i := 8) (by kernel_rfl) rfl (fun K hK => ?_)
            go_simp
            (with_reducible refine (r8_alike _ htk ho10 (tkS_pos HO1.out j (Nat.pos_of_ne_zero q8H.out) (by omega)) (lnx (by omega)) (by omega) rfl (SzL.at (SzL.app (tkS_sz HSZ.out j (by omega)) (HSZ.out j (by omega)))) rfl HQ2.out).mono ?_)
            rintro e w45 ⟨_, rfl, h11, hb⟩
            obtain ⟨sh11, ah11, nh11, ch11, Ah11, Nh11, Ch11, rfl⟩ := h11.shape
            replace hs := bStep hs hb
            replace Bllevel := Bllevel.mono hb
            replace hv := hv.mono hb
            replace htk := rowsJ RC.kept _ _ _ htk hb
            replace Vvo := VecR.mono BC.kept Vvo hb
            replace ho10 := rowsJ RC.kept _ _ _ ho10 hb
            replace clevel_0 := cellK clevel_0 hb
            replace clevel_1 := cellK clevel_1 hb
            replace clevel_2 := cellK clevel_2 hb
            replace Eo10 := cellK Eo10 hb
            clear hb
            try go_wp2_with fail
            refine hK.out _ _ ⟨clevel_0, clevel_1, clevel_2, Eo10⟩ (fun hH => ?_)
            clear hK K
            try simp only [LY]
            clear hH
            refine U_one (i := 10) (by kernel_rfl) rfl (fun K hK => ?_)
            go_simp
            (with_reducible refine (rCmp h11 hv (SzQ.fit (sq (by omega))) (SzQ.fit sv)).mono ?_)
            rintro e w46 ⟨rfl, hb⟩
            replace hs := bStep hs hb
            replace Bllevel := Bllevel.mono hb
            replace hv := hv.mono hb
            replace h11 := h11.mono hb
            replace htk := rowsJ RC.kept _ _ _ htk hb
            replace Vvo := VecR.mono BC.kept Vvo hb
            replace ho10 := rowsJ RC.kept _ _ _ ho10 hb
            replace clevel_0 := cellK clevel_0 hb
            replace clevel_1 := cellK clevel_1 hb
            replace clevel_2 := cellK clevel_2 hb
            replace Eo10 := cellK Eo10 hb
            clear hb
            rw [← Hsg12.out]
            try go_wp2_with fail
            refine hK.out _ _ ⟨clevel_0, clevel_1, clevel_2, Eo10⟩ (fun hH => ?_)
            clear hK K
            try simp only [LY]
            refine U_tk 11 66 ?_ ?_ hH ?_
            rotate_left
            · (intro w hSw; (try dsimp only at hSw); go_simp; try with_reducible rfl)
            simp only [LY]
            refine U_tk 12 67 ?_ ?_ hH ?_
            rotate_left
            · (intro w hSw; (try dsimp only at hSw); go_simp; try with_reducible rfl)
            simp only [LY]
            clear hH
            refine U_endN (by kernel_rfl) ?_
            clear clevel_0 clevel_1 clevel_2 Eo10
            by_cases q13 : lev ≤ q
            · have q13_ : 0 ≤ sg12 := by have h := sq_ge q lev; rw [← Hsg12.out] at h; exact h.2 q13
              have q13H := Lib.hid q13
              clear q13
              have q13d : decide (0 ≤ sg12) = true := decide_eq_true q13_
              obtain ⟨Ee140, le14⟩ := vecB_at Vvo (show j < (okR lev L j).length by omega)
              obtain ⟨ie14, Hie14⟩ : ∃ z : Bool, z = nthB (okR lev L j) j := ⟨_, rfl⟩
              rw [← Hie14] at Ee140
              replace Hie14 := Lib.hid Hie14.symm
              have fVvo := Vvo.free
              have LVvo : w22.heap.size < w46.heap.size := Vvo.lt
              go_upto_region 22 with fail
              clear fVvo LVvo lo10 le14 Ee140
              refine Code.abs ?_
              intro w47 hW
              have hG : Gr [w22.heap.size] w46 w47 := by rw [hW]; exact (Gr.refl _ _).set
              have hsz := hs.size
              have hbw : Below w.heap.size w46 w47 := hG.below1 hs.size (by first | omega | assumption)
              have hk : KeepD w46 w47 := hG.keep ⟨⟨_, Vvo.ty, by decide⟩, True.intro⟩
              have V1vo : VecR 4 1 BC w47 (w22.heap.size) ((okR lev L j).set j (true)) := by rw [hW]; exact (Vvo.put1 BC.kept (show j < (okR lev L j).length by omega) (by decide) rfl ((Gr.refl _ _)))
              rw [okR_set (show j < L.length by omega) (okS_yes (show lev ≤ alA (tkS lev L j) (nthL L j) from by rw [HQ.out]; exact q13H.out))] at V1vo
              replace hs := hs.trans hbw
              replace htk := htk.onlyT RC.kept (hG.onlyT (by intro g hg; simp only [List.mem_cons, List.mem_nil_iff, or_false] at hg; rcases hg with rfl <;> first | exact Vvo.ty)) (by decide) (by decide)
              replace ho10 := ho10.onlyT RC.kept (hG.onlyT (by intro g hg; simp only [List.mem_cons, List.mem_nil_iff, or_false] at hg; rcases hg with rfl <;> first | exact Vvo.ty)) (by decide) (by decide)
              replace Bllevel := hG.bx Bllevel (notMem1 (by omega))
              replace Vvo := V1vo
              clear V1vo
              replace hv := hv.keep hk
              replace h11 := h11.keep hk
              clear hW hG hk hbw hsz
              obtain ⟨ao15, ko15, Eo15, -, -, ho15, lo15⟩ := rowL_at (HL.out.monoB (LR.keptB RC.kept) hs) (nthL_some (show j < L.length by omega))
              have lno15 := HO1.out j (show j < L.length by omega)
              obtain ⟨bo15, oo15, co15, hv_, -, -, -⟩ := ho15.open_ (by omega)
              injection hv_ with e1_ e2_ e3_
              subst e1_ e3_
              clear e2_
              go_wp2_with fail
              clear lo15 Eo15
              with_reducible refine (r8_both _ htk ho15 (tkS_pos HO1.out j (Nat.pos_of_ne_zero q8H.out) (by omega)) (lnx (by omega)) (by omega)).mono ?_
              rintro e w48 ⟨_, rfl, hb16, hb⟩
              obtain ⟨ahb16, khb16, rfl, hb161, hb162, -⟩ := hb16.toI.slice
              replace hs := bStep hs hb
              replace Bllevel := Bllevel.mono hb
              replace hv := hv.mono hb
              replace h11 := h11.mono hb
              replace htk := rowsJ RC.kept _ _ _ htk hb
              replace Vvo := VecR.mono BC.kept Vvo hb
              replace ho10 := rowsJ RC.kept _ _ _ ho10 hb
              replace ho15 := rowsJ RC.kept _ _ _ ho15 hb
              clear hb
              go_wp2
              go_roundw
              case rel => exact ⟨j + 1, by omega, by go_num, hs, Bllevel, hv, (by rw [tkS_yes (show lev ≤ alA (tkS lev L j) (nthL L j) from by rw [HQ.out]; exact q13H.out)]; have h_ := hb16; rw [List.length_append] at h_; exact h_), (fun e_ => by omega), Vvo⟩
              all_goals first | (simp [intOf]; done) | (simp [intOf]; omega)
            · have q13_ : ¬ (0 ≤ sg12) := by have h := sq_ge q lev; rw [← Hsg12.out] at h; exact fun h1 => q13 (h.1 h1)
              have q13H := Lib.hid q13
              clear q13
              have q13d : decide (0 ≤ sg12) = false := decide_eq_false q13_
              go_wp2
              go_roundw
              case rel => exact ⟨j + 1, by omega, by go_num, hs, Bllevel, hv, (by rw [tkS_no q8H.out (show ¬ lev ≤ alA (tkS lev L j) (nthL L j) from by rw [HQ.out]; exact q13H.out)]; exact htk), (fun e_ => by omega), (by rw [← okR_keep (by omega) (okS_no q8H.out (show ¬ lev ≤ alA (tkS lev L j) (nthL L j) from by rw [HQ.out]; exact q13H.out))]; exact Vvo)⟩
              all_goals first | (simp [intOf]; done) | (simp [intOf]; omega)
        · have q7d : ((j : Int) < (L.length : Int)) = False := eq_false (by omega)
          obtain rfl : j = L.length := by omega
          have hR := Vvo.rows (by omega)
          rw [okR_len lev L (Nat.le_refl _), okR_end] at hR
          clear Vvo
          go_wp2
          go_ret2
          exact ⟨_, _, rfl, hR, rfl, hs⟩

/-- Pool's error, and what it tells. -/
noncomputable def poolE (lev : Rat) (L : List (List Rat)) : Int := open Classical in if L.length < 1 ∨ 16 < L.length ∨ ¬ allOk L L.length ∨ 64 < lenS L L.length then 4 else if ¬ (0 ≤ lev ∧ lev ≤ 1) then 1 else 0
noncomputable def poolO (lev : Rat) (L : List (List Rat)) : List Bool := open Classical in if poolE lev L = 0 then okS lev L L.length else []
theorem poolE_four {lev : Rat} {L : List (List Rat)} (h : L.length < 1 ∨ 16 < L.length ∨ ¬ allOk L L.length ∨ 64 < lenS L L.length) : poolE lev L = 4 := if_pos h
theorem poolE_one {lev : Rat} {L : List (List Rat)} (h : ¬ (L.length < 1 ∨ 16 < L.length ∨ ¬ allOk L L.length ∨ 64 < lenS L L.length)) (hc : ¬ (0 ≤ lev ∧ lev ≤ 1)) : poolE lev L = 1 := (if_neg h).trans (if_pos hc)
theorem poolE_zero {lev : Rat} {L : List (List Rat)} (h : ¬ (L.length < 1 ∨ 16 < L.length ∨ ¬ allOk L L.length ∨ 64 < lenS L L.length)) (hc : 0 ≤ lev ∧ lev ≤ 1) : poolE lev L = 0 := (if_neg h).trans (if_neg (fun e => e hc))
theorem poolO_nil {lev : Rat} {L : List (List Rat)} (h : ¬ poolE lev L = 0) : poolO lev L = [] := if_neg h
theorem poolO_ok {lev : Rat} {L : List (List Rat)} (h : poolE lev L = 0) : poolO lev L = okS lev L L.length := if_pos h
theorem ret2_of_nil {w : World} {n : Int} {f : FuncId} {args : Array Value} (h : Calls Tryz.prog f args w (RetV w (.tuple #[.slice none 0 0, .int .i64 n]))) : Calls Tryz.prog f args w (Ret2 (fun w v => Rows 1 4 BC w v []) (fun _ v => v = .int .i64 n) w) :=
  h.mono fun _ _ ⟨he, hb⟩ => ⟨_, _, he, Rows.nil_ _, rfl, hb⟩
theorem al_Pool_all {v vl : Value} {L : List (List Rat)} {lev : Rat} (w : World) (hl : Rows 1 46 (LR 3 29 PC) w v L) (hv : PV w vl lev) (sv : Mid lev) (hsz : ∀ i, i < L.length → SzL (nthL L i)) {W : Int} {O : List Bool} (hW : poolE lev L = W) (hO : poolO lev L = O) (h12 : W = 0 → lenS L L.length ≤ 12) :
    Calls Tryz.prog 31 #[v, vl] w (Ret2 (fun w v => Rows 1 4 BC w v O) (fun _ v => v = .int .i64 W) w) := by
  subst hW hO
  by_cases h1 : L.length < 1
  · have e : poolE lev L = 4 := poolE_four (.inl h1)
    rw [poolO_nil (by rw [e]; decide), e]
    exact ret2_of_nil (al_Pool_few w hl hv sv h1)
  · by_cases h2 : 16 < L.length
    · have e : poolE lev L = 4 := poolE_four (.inr (.inl h2))
      rw [poolO_nil (by rw [e]; decide), e]
      exact ret2_of_nil (al_Pool_many w hl hv sv h2)
    · by_cases h3 : allOk L L.length
      · by_cases h4 : 64 < lenS L L.length
        · have e : poolE lev L = 4 := poolE_four (.inr (.inr (.inr h4)))
          rw [poolO_nil (by rw [e]; decide), e]
          exact ret2_of_nil (al_Pool_e3 w hl hv sv (by omega) (by omega) h3 h4)
        · have hn : ¬ (L.length < 1 ∨ 16 < L.length ∨ ¬ allOk L L.length ∨ 64 < lenS L L.length) := by
            rintro (h | h | h | h)
            · exact h1 h
            · exact h2 h
            · exact h h3
            · exact h4 h
          by_cases hc : 0 ≤ lev ∧ lev ≤ 1
          · have e := poolE_zero hn hc
            rw [poolO_ok e, e]
            exact al_Pool_ok w hl hv sv (by omega) (by omega) h3 (h12 e) hc hsz (fun i hi => (chE_zero (h3 i hi)).1)
          · have e := poolE_one hn hc
            rw [poolO_nil (by rw [e]; decide), e]
            exact ret2_of_nil (al_Pool_e4 w hl hv sv (by omega) (by omega) h3 (by omega) hc)
      · have e : poolE lev L = 4 := poolE_four (.inr (.inr (.inl h3)))
        rw [poolO_nil (by rw [e]; decide), e]
        exact ret2_of_nil (al_Pool_e2 w hl hv sv (by omega) (by omega) h3)
theorem r8_Pool_all {v vl : Value} {L : List (List Rat)} {lev : Rat} (w : World) (hl : Rows 1 47 (LR 3 36 RC) w v L) (hv : RV w vl lev) (sv : Mid lev) (hsz : ∀ i, i < L.length → SzL (nthL L i)) {W : Int} {O : List Bool} (hW : poolE lev L = W) (hO : poolO lev L = O) (h12 : W = 0 → lenS L L.length ≤ 12) :
    Calls Tryz.prog 32 #[v, vl] w (Ret2 (fun w v => Rows 1 4 BC w v O) (fun _ v => v = .int .i64 W) w) := by
  subst hW hO
  by_cases h1 : L.length < 1
  · have e : poolE lev L = 4 := poolE_four (.inl h1)
    rw [poolO_nil (by rw [e]; decide), e]
    exact ret2_of_nil (r8_Pool_few w hl hv sv h1)
  · by_cases h2 : 16 < L.length
    · have e : poolE lev L = 4 := poolE_four (.inr (.inl h2))
      rw [poolO_nil (by rw [e]; decide), e]
      exact ret2_of_nil (r8_Pool_many w hl hv sv h2)
    · by_cases h3 : allOk L L.length
      · by_cases h4 : 64 < lenS L L.length
        · have e : poolE lev L = 4 := poolE_four (.inr (.inr (.inr h4)))
          rw [poolO_nil (by rw [e]; decide), e]
          exact ret2_of_nil (r8_Pool_e3 w hl hv sv (by omega) (by omega) h3 h4)
        · have hn : ¬ (L.length < 1 ∨ 16 < L.length ∨ ¬ allOk L L.length ∨ 64 < lenS L L.length) := by
            rintro (h | h | h | h)
            · exact h1 h
            · exact h2 h
            · exact h h3
            · exact h4 h
          by_cases hc : 0 ≤ lev ∧ lev ≤ 1
          · have e := poolE_zero hn hc
            rw [poolO_ok e, e]
            exact r8_Pool_ok w hl hv sv (by omega) (by omega) h3 (h12 e) hc hsz (fun i hi => (chE_zero (h3 i hi)).1)
          · have e := poolE_one hn hc
            rw [poolO_nil (by rw [e]; decide), e]
            exact ret2_of_nil (r8_Pool_e4 w hl hv sv (by omega) (by omega) h3 (by omega) hc)
      · have e : poolE lev L = 4 := poolE_four (.inr (.inr (.inl h3)))
        rw [poolO_nil (by rw [e]; decide), e]
        exact ret2_of_nil (r8_Pool_e2 w hl hv sv (by omega) (by omega) h3)
end Go.Proofs.YtmnipggjjcmjkaaGreat
