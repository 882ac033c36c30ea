/-
  Reference 07: odd, exact, Trace and gate, at any float32.
-/
import Derived.Test.YtkfekkhhfpkfaaaGreatFollowB
import Derived.Test.YtkfekkhhfpkfaaaGreatFlt5
set_option linter.unusedSimpArgs false
set_option linter.unusedVariables false
namespace Go.Proofs.YtkfekkhhfpkfaaaGreat
open Go.RowKit Dg
attribute [local go_sem ↓] Go.wp_at_zero Go.wp_at_succ

set_option maxRecDepth 100000 in
set_option maxHeartbeats 4000000 in
theorem r7_odd_yes {x : Nat} (h : f32E x = 255) (w : World) : Calls Tryz.prog 124 #[.float .f32 x] w (RetV w (.bool true)) := by
  have hs := cvW_below x w
  have hcv := cv_run x
  have HF := Lib.hid (rfloat_odd (cvB_lt x w) (cvB_odd h w) (cvW x w))
  clear h
  go_enter Tryz.func124, Tryz.ntmps124
  go_wp2_with fail
  clear hcv
  generalize cvW x w = w1 at *
  generalize cvB x w = b at *
  refine HF.out.mono ?_
  rintro e w2 ⟨_, rfl, hq, hb⟩
  obtain ⟨shq, ahq, nhq, chq, Ahq, Nhq, Chq, rfl⟩ := hq.shape
  replace hs := bStep hs hb
  clear hb
  go_wp2
  refine bodyPost.abs ?_
  intro w3 hW
  have hsz := hs.size
  have hbw : Below w.heap.size w2 w3 := by rw [hW]; exact (Below.alloc (Below.refl w.heap.size w2) (by first | exact hs.size | (have := hs.size; simp; done) | (have := hs.size; simp; omega)) _)
  have hs1 : Below w.heap.size w w3 := hs.trans hbw
  have hk : KeepD w2 w3 := by rw [hW]; exact ((KeepD.refl _).alloc _)
  have Bl1x : Bx w3 (w2.heap.size) 38 #[.bool shq, .slice ahq nhq chq, .slice Ahq Nhq Chq] := by rw [hW]; exact (Bx.new' _ _ _ _ (by first | rfl | (simp; done)))
  replace hs := hs1
  clear hs1
  have Blx := Bl1x
  clear Bl1x
  clear hW hk hsz hbw
  have hz_w3 : w2.heap.size < w3.heap.size := Blx.lt
  go_ret
  exact ⟨rfl, hs⟩
set_option maxRecDepth 100000 in
set_option maxHeartbeats 4000000 in
theorem r7_odd_no {x : Nat} (h : f32E x ≠ 255) (w : World) : Calls Tryz.prog 124 #[.float .f32 x] w (RetV w (.bool false)) := by
  have hs := cvW_below x w
  have hcv := cv_run x
  have HF := Lib.hid (rfloat_fin (cvB_lt x w) (cvB_fin h w) (cvW x w))
  clear h
  go_enter Tryz.func124, Tryz.ntmps124
  go_wp2_with fail
  clear hcv
  generalize cvW x w = w1 at *
  generalize cvB x w = b at *
  refine HF.out.mono ?_
  rintro e w2 ⟨_, rfl, hq, hb⟩
  obtain ⟨shq, ahq, nhq, chq, Ahq, Nhq, Chq, rfl⟩ := hq.shape
  replace hs := bStep hs hb
  clear hb
  go_wp2
  refine bodyPost.abs ?_
  intro w3 hW
  have hsz := hs.size
  have hbw : Below w.heap.size w2 w3 := by rw [hW]; exact (Below.alloc (Below.refl w.heap.size w2) (by first | exact hs.size | (have := hs.size; simp; done) | (have := hs.size; simp; omega)) _)
  have hs1 : Below w.heap.size w w3 := hs.trans hbw
  have hk : KeepD w2 w3 := by rw [hW]; exact ((KeepD.refl _).alloc _)
  have Bl1x : Bx w3 (w2.heap.size) 38 #[.bool shq, .slice ahq nhq chq, .slice Ahq Nhq Chq] := by rw [hW]; exact (Bx.new' _ _ _ _ (by first | rfl | (simp; done)))
  replace hs := hs1
  clear hs1
  have Blx := Bl1x
  clear Bl1x
  clear hW hk hsz hbw
  have hz_w3 : w2.heap.size < w3.heap.size := Blx.lt
  go_ret
  exact ⟨rfl, hs⟩
set_option maxRecDepth 100000 in
set_option maxHeartbeats 4000000 in
theorem r7_exact {x : Nat} (h : f32E x ≠ 255) (w : World) : Calls Tryz.prog 72 #[.float .f32 x] w (RetQ w (flQ (cvF x))) := by
  have hs := Below.refl w.heap.size w
  have hcv := cv_num h
  have HF := Lib.hid (rfloat_fin (cv_fin h).1 (cv_fin h).2)
  clear h
  go_enter Tryz.func72, Tryz.ntmps72
  go_wp2_with fail
  clear hcv
  refine Calls.abs ?_
  intro w1 hW
  have hsz := hs.size
  have hbw : Below w.heap.size w w1 := by rw [hW]; exact (Below.alloc (Below.refl w.heap.size w) (by first | exact hs.size | (have := hs.size; simp; done) | (have := hs.size; simp; omega)) _)
  have hs1 : Below w.heap.size w w1 := hs.trans hbw
  have hk : KeepD w w1 := by rw [hW]; exact ((KeepD.refl _).alloc _)
  have Bl1z : Bx w1 (w.heap.size) 38 #[.bool false, .slice none 0 0, .slice none 0 0] := by rw [hW]; exact (Bx.new' _ _ _ _ (by first | rfl | (simp; done)))
  replace hs := hs1
  clear hs1
  have Blz := Bl1z
  clear Bl1z
  clear hW hk hsz hbw
  have hz_w1 : w.heap.size < w1.heap.size := Blz.lt
  refine (HF.out _).mono ?_
  rintro e w2 ⟨_, rfl, hq, hb⟩
  obtain ⟨shq, ahq, nhq, chq, Ahq, Nhq, Chq, rfl⟩ := hq.shape
  replace hs := bStep hs hb
  replace Blz := Blz.mono hb
  clear hb
  have nzx : w.heap.size < w2.heap.size := Blz.lt
  go_upto_region 2 with fail
  refine Code.abs ?_
  intro w3 hW
  have hsz := hs.size
  have lz := Blz.lt
  have hbw : Below w.heap.size w2 w3 := by rw [hW]; exact (Below.alloc (Below.refl w.heap.size w2) (by first | exact hs.size | (have := hs.size; simp; done) | (have := hs.size; simp; omega)) _)
  have hs1 : Below w.heap.size w w3 := hs.trans hbw
  have hk : KeepD w2 w3 := by rw [hW]; exact ((KeepD.refl _).alloc _)
  have Bl1z : Bx w3 (w.heap.size) 38 #[.bool false, .slice none 0 0, .slice none 0 0] := by rw [hW]; exact (Blz.alloc _)
  have Bl1x : Bx w3 (w2.heap.size) 38 #[.bool shq, .slice ahq nhq chq, .slice Ahq Nhq Chq] := by rw [hW]; exact (Bx.new' _ _ _ _ (by first | rfl | (simp; done)))
  replace hs := hs1
  clear hs1
  replace Blz := Bl1z
  clear Bl1z
  have Blx := Bl1x
  clear Bl1x
  replace hq := hq.keep hk
  clear hW hk hsz hbw lz
  have hz_w3 : w2.heap.size < w3.heap.size := Blx.lt
  have cx_0 : w3.cell? ⟨w2.heap.size, 0, none⟩ = some (.bool shq) := Blx.at 0 rfl
  have cx_1 : w3.cell? ⟨w2.heap.size, 1, none⟩ = some (.slice ahq nhq chq) := Blx.at 1 rfl
  have cx_2 : w3.cell? ⟨w2.heap.size, 2, none⟩ = some (.slice Ahq Nhq Chq) := Blx.at 2 rfl
  have cz_0 : w3.cell? ⟨w.heap.size, 0, none⟩ = some (.bool false) := Blz.at 0 rfl
  have cz_1 : w3.cell? ⟨w.heap.size, 1, none⟩ = some (.slice none 0 0) := Blz.at 1 rfl
  have cz_2 : w3.cell? ⟨w.heap.size, 2, none⟩ = some (.slice none 0 0) := Blz.at 2 rfl
  have fz := Blz.free
  have Lz : w.heap.size < w3.heap.size := Blz.lt
  go_wp2
  refine bodyPost.abs ?_
  intro w4 hW
  have hsz := hs.size
  have lz := Blz.lt
  have lx := Blx.lt
  have hbw : Below w.heap.size w3 w4 := by rw [hW]; exact (Below.setCell (Below.setCell (Below.setCell (Below.refl w.heap.size w3) (by first | exact Nat.le_refl _ | omega | (have := hs.size; simp; done) | (have := hs.size; simp; omega)) _) (by first | exact Nat.le_refl _ | omega | (have := hs.size; simp; done) | (have := hs.size; simp; omega)) _) (by first | exact Nat.le_refl _ | omega | (have := hs.size; simp; done) | (have := hs.size; simp; omega)) _)
  have hs1 : Below w.heap.size w w4 := hs.trans hbw
  have hk : KeepD w3 w4 := by rw [hW]; exact (KeepD.set (KeepD.set (KeepD.set (KeepD.refl _) Blz.ty (by decide) _ _) (TyB.store Blz.ty _ _) (by decide) _ _) (TyB.store (TyB.store Blz.ty _ _) _ _) (by decide) _ _)
  have Bl1z : Bx w4 (w.heap.size) 38 #[.bool shq, .slice ahq nhq chq, .slice Ahq Nhq Chq] := by rw [hW]; exact (Bx.set (Bx.set (Bx.set Blz 0 _ rfl) 1 _ rfl) 2 _ rfl)
  have Bl1x : Bx w4 (w2.heap.size) 38 #[.bool shq, .slice ahq nhq chq, .slice Ahq Nhq Chq] := by rw [hW]; exact (Bx.far (Bx.far (Bx.far Blx (by first | omega | (simp; done) | (simp; omega)) _) (by first | omega | (simp; done) | (simp; omega)) _) (by first | omega | (simp; done) | (simp; omega)) _)
  replace hs := hs1
  clear hs1
  replace Blz := Bl1z
  clear Bl1z
  replace Blx := Bl1x
  clear Bl1x
  replace hq := hq.keep hk
  clear hW hk hsz hbw lz lx
  have cz_0 : w4.cell? ⟨w.heap.size, 0, none⟩ = some (.bool shq) := Blz.at 0 rfl
  have cz_1 : w4.cell? ⟨w.heap.size, 1, none⟩ = some (.slice ahq nhq chq) := Blz.at 1 rfl
  have cz_2 : w4.cell? ⟨w.heap.size, 2, none⟩ = some (.slice Ahq Nhq Chq) := Blz.at 2 rfl
  exact bodyPost_ret (v := .agg #[.bool shq, .slice ahq nhq chq, .slice Ahq Nhq Chq]) (by simp [results, Tryz.results72, go_sem, cz_0, cz_1, cz_2]) rfl ⟨_, rfl, hq, hs⟩
set_option maxRecDepth 100000 in
set_option maxHeartbeats 4000000 in
theorem r7_Trace_ok (v : Value) (l : List (Nat × Rat)) (w : World) (hl : RowsI 1 F32 w v l) (h256 : l.length ≤ 256) (hok : ∀ x ∈ l, f32E x.1 ≠ 255) : Calls Tryz.prog 69 #[v] w (RetV w (.int .i64 0)) := by
  obtain ⟨ao, cap, rfl, hc1, hc2, hc3⟩ := hl.slice
  have hs := Below.refl w.heap.size w
  have HL := Lib.hid hl
  have HOK := Lib.hid hok
  clear hl hok
  go_enter Tryz.func69, Tryz.ntmps69
  go_wp2
  go_loopw [3] (fun iv wq => ∃ k : Nat, k ≤ l.length ∧ iv = .int .i64 k ∧ Below w.heap.size w wq) (fun iv _ => l.length - (intOf iv).toNat)
  case atStart => exact ⟨0, Nat.zero_le _, rfl, hs⟩
  case round =>
    obtain ⟨k, hk, rfl, hs⟩ := hrel
    by_cases hlt' : k < l.length
    · obtain ⟨⟨b32, q⟩, hx⟩ : ∃ x, l[k]? = some x := ⟨_, List.getElem?_eq_getElem hlt'⟩
      obtain ⟨b, o, c, cs, hv, hlen, hat, rfl⟩ := (HL.out.mono F32.kept hs).get hx
      obtain ⟨rfl, rfl⟩ := sliceE hv
      have e0 := hat 0 _ rfl
      clear hat
      simp only [Nat.add_zero, Nat.mul_one] at e0
      have HO := Lib.hid (r7_odd_no (HOK.out _ (List.mem_of_getElem? hx)))
      clear hx hv hlen
      try dsimp only at e0
      go_wp2_with fail
      refine (HO.out _).mono ?_
      rintro e w21 ⟨rfl, hb⟩
      replace hs := bStep hs hb
      clear hb e0
      go_wp2
      go_roundw
      case rel => exact ⟨k + 1, by omega, by go_num, hs⟩
      all_goals first | (simp [intOf]; done) | (simp [intOf]; omega)
    · go_wp2
      go_ret
      exact ⟨rfl, hs⟩
set_option maxRecDepth 100000 in
set_option maxHeartbeats 4000000 in
theorem r7_Trace_bad (v : Value) (l : List (Nat × Rat)) (w : World) (hl : RowsI 1 F32 w v l) (h256 : l.length ≤ 256) (m : Nat) (hm : m < l.length) (hok : ∀ i x, i < m → l[i]? = some x → f32E x.1 ≠ 255) (hbad : ∀ x, l[m]? = some x → f32E x.1 = 255) : Calls Tryz.prog 69 #[v] w (RetV w (.int .i64 1)) := by
  obtain ⟨ao, cap, rfl, hc1, hc2, hc3⟩ := hl.slice
  have hs := Below.refl w.heap.size w
  have HL := Lib.hid hl
  have HOK := Lib.hid hok
  have HB := Lib.hid hbad
  clear hl hok hbad
  go_enter Tryz.func69, Tryz.ntmps69
  go_wp2
  go_loopw [3] (fun iv wq => ∃ k : Nat, k ≤ m ∧ iv = .int .i64 k ∧ Below w.heap.size w wq) (fun iv _ => l.length - (intOf iv).toNat)
  case atStart => exact ⟨0, Nat.zero_le _, rfl, hs⟩
  case round =>
    obtain ⟨k, hk, rfl, hs⟩ := hrel
    have hlt' : k < l.length := by omega
    by_cases hlt : k < m
    · obtain ⟨⟨b32, q⟩, hx⟩ : ∃ x, l[k]? = some x := ⟨_, List.getElem?_eq_getElem hlt'⟩
      obtain ⟨b, o, c, cs, hv, hlen, hat, rfl⟩ := (HL.out.mono F32.kept hs).get hx
      obtain ⟨rfl, rfl⟩ := sliceE hv
      have e0 := hat 0 _ rfl
      clear hat
      simp only [Nat.add_zero, Nat.mul_one] at e0
      have HO := Lib.hid (r7_odd_no (HOK.out _ _ hlt hx))
      clear hx hv hlen
      try dsimp only at e0
      go_wp2_with fail
      refine (HO.out _).mono ?_
      rintro e w21 ⟨rfl, hb⟩
      replace hs := bStep hs hb
      clear hb e0
      go_wp2
      go_roundw
      case rel => exact ⟨k + 1, by omega, by go_num, hs⟩
      all_goals first | (simp [intOf]; done) | (simp [intOf]; omega)
    · have hkm : k = m := by omega
      obtain ⟨⟨b32, q⟩, hx⟩ : ∃ x, l[k]? = some x := ⟨_, List.getElem?_eq_getElem hlt'⟩
      obtain ⟨b, o, c, cs, hv, hlen, hat, rfl⟩ := (HL.out.mono F32.kept hs).get hx
      obtain ⟨rfl, rfl⟩ := sliceE hv
      have e0 := hat 0 _ rfl
      clear hat
      simp only [Nat.add_zero, Nat.mul_one] at e0
      have HO := Lib.hid (r7_odd_yes (HB.out _ (hkm ▸ hx)))
      clear hkm
      clear hx hv hlen
      try dsimp only at e0
      go_wp2_with fail
      refine (HO.out _).mono ?_
      rintro e w21 ⟨rfl, hb⟩
      replace hs := bStep hs hb
      clear hb e0
      go_wp2
      go_ret
      exact ⟨rfl, hs⟩
set_option maxRecDepth 100000 in
set_option maxHeartbeats 4000000 in
theorem r7_Trace_long (v : Value) (l : List (Nat × Rat)) (w : World) (hl : RowsI 1 F32 w v l) (h256 : 256 < l.length) : Calls Tryz.prog 69 #[v] w (RetV w (.int .i64 4)) := by
  obtain ⟨ao, cap, rfl, hc1, hc2, hc3⟩ := hl.slice
  go_enter Tryz.func69, Tryz.ntmps69
  go_wp2
  go_ret
  exact ⟨rfl, Below.refl _ _⟩
theorem r7_Trace_calls (v : Value) (ys : List Nat) (w : World) (hl : RowsI 1 F32 w v (ys.map fun x => (x, flQ (cvF x)))) : Calls Tryz.prog 69 #[v] w (RetV w (.int .i64 (traceE ys))) := by
  have hlen : (ys.map fun x => (x, flQ (cvF x))).length = ys.length := List.length_map _
  by_cases h256 : 256 < ys.length
  · have e : traceE ys = 4 := by unfold traceE; rw [if_pos h256]
    rw [e]
    exact r7_Trace_long v _ w hl (by rw [hlen]; exact h256)
  · by_cases ho : ys.any (fun x => decide (f32E x = 255)) = true
    · have e : traceE ys = 1 := by unfold traceE; rw [if_neg h256, if_pos ho]
      rw [e]
      obtain ⟨m, hm, h1, h2⟩ := first_odd ys ho
      refine r7_Trace_bad v _ w hl (by rw [hlen]; omega) m (by rw [hlen]; exact hm) (fun i x hi hx => ?_) fun x hx => ?_
      · rw [List.getElem?_map] at hx
        obtain ⟨y, hy, rfl⟩ := Option.map_eq_some_iff.1 hx
        exact h1 i y hi hy
      · rw [List.getElem?_map] at hx
        obtain ⟨y, hy, rfl⟩ := Option.map_eq_some_iff.1 hx
        exact h2 y hy
    · have hno : ∀ y ∈ ys, f32E y ≠ 255 := fun y hy hE => ho (List.any_eq_true.2 ⟨y, hy, decide_eq_true hE⟩)
      have e : traceE ys = 0 := by unfold traceE; rw [if_neg h256, if_neg ho]
      rw [e]
      refine r7_Trace_ok v _ w hl (by rw [hlen]; omega) fun x hx => ?_
      obtain ⟨y, hy, rfl⟩ := List.mem_map.1 hx
      exact hno y hy
set_option maxRecDepth 100000 in
set_option maxHeartbeats 4000000 in
theorem r7_gate0 (f t n : Int) (lv : Nat) (w : World) (ec : Int) (he : ec = gateE f t n lv) : Calls Tryz.prog 70 #[.agg #[.int .i64 f, .int .i64 t, .float .f32 lv], .int .i64 n] w (RetV w (.int .i64 ec)) := by
  have hs := Below.refl w.heap.size w
  go_enter Tryz.func70, Tryz.ntmps70
  go_upto_region 1 with fail
  refine Code.abs ?_
  intro w1 hW
  have hsz := hs.size
  have hbw : Below w.heap.size w w1 := by rw [hW]; exact (Below.alloc (Below.refl w.heap.size w) (by first | exact hs.size | (have := hs.size; simp; done) | (have := hs.size; simp; omega)) _)
  have hs1 : Below w.heap.size w w1 := hs.trans hbw
  have hk : KeepD w w1 := by rw [hW]; exact ((KeepD.refl _).alloc _)
  have Bl1g : Bx w1 (w.heap.size) 52 #[.int .i64 f, .int .i64 t, .float .f32 lv] := by rw [hW]; exact (Bx.new' _ _ _ _ (by first | rfl | (simp; done)))
  replace hs := hs1
  clear hs1
  have Blg := Bl1g
  clear Bl1g
  clear hW hk hsz hbw
  have hz_w1 : w.heap.size < w1.heap.size := Blg.lt
  unfold gateE at he
  by_cases h1 : f < 0
  · rw [if_pos h1] at he; subst he
    have d1 : (f < (0 : Int)) = True := eq_true h1
    have cg_0 : w1.cell? ⟨w.heap.size, 0, none⟩ = some (.int .i64 f) := Blg.at 0 rfl
    have cg_1 : w1.cell? ⟨w.heap.size, 1, none⟩ = some (.int .i64 t) := Blg.at 1 rfl
    have cg_2 : w1.cell? ⟨w.heap.size, 2, none⟩ = some (.float .f32 lv) := Blg.at 2 rfl
    go_wp2
    go_ret
    exact ⟨rfl, hs⟩
  · rw [if_neg h1] at he
    have d1 : (f < (0 : Int)) = False := eq_false h1
    by_cases h2 : t ≤ f
    · rw [if_pos h2] at he; subst he
      have d2 : (t ≤ f) = True := eq_true h2
      have cg_0 : w1.cell? ⟨w.heap.size, 0, none⟩ = some (.int .i64 f) := Blg.at 0 rfl
      have cg_1 : w1.cell? ⟨w.heap.size, 1, none⟩ = some (.int .i64 t) := Blg.at 1 rfl
      have cg_2 : w1.cell? ⟨w.heap.size, 2, none⟩ = some (.float .f32 lv) := Blg.at 2 rfl
      go_wp2
      go_ret
      exact ⟨rfl, hs⟩
    · rw [if_neg h2] at he
      have d2 : (t ≤ f) = False := eq_false h2
      by_cases h3 : n < t
      · rw [if_pos h3] at he; subst he
        have d3 : (n < t) = True := eq_true h3
        have cg_0 : w1.cell? ⟨w.heap.size, 0, none⟩ = some (.int .i64 f) := Blg.at 0 rfl
        have cg_1 : w1.cell? ⟨w.heap.size, 1, none⟩ = some (.int .i64 t) := Blg.at 1 rfl
        have cg_2 : w1.cell? ⟨w.heap.size, 2, none⟩ = some (.float .f32 lv) := Blg.at 2 rfl
        go_wp2
        go_ret
        exact ⟨rfl, hs⟩
      · rw [if_neg h3] at he
        have d3 : (n < t) = False := eq_false h3
        by_cases h4 : f32E lv = 255
        · rw [if_pos h4] at he; subst he
          have H4 := Lib.hid h4
          clear h4
          have cg_0 : w1.cell? ⟨w.heap.size, 0, none⟩ = some (.int .i64 f) := Blg.at 0 rfl
          have cg_1 : w1.cell? ⟨w.heap.size, 1, none⟩ = some (.int .i64 t) := Blg.at 1 rfl
          have cg_2 : w1.cell? ⟨w.heap.size, 2, none⟩ = some (.float .f32 lv) := Blg.at 2 rfl
          go_wp2_with fail
          refine (r7_odd_yes H4.out _).mono ?_
          rintro e w2 ⟨rfl, hb⟩
          replace hs := bStep hs hb
          replace Blg := Blg.mono hb
          clear hb
          clear cg_0 cg_1 cg_2
          have cg_0 : w2.cell? ⟨w.heap.size, 0, none⟩ = some (.int .i64 f) := Blg.at 0 rfl
          have cg_1 : w2.cell? ⟨w.heap.size, 1, none⟩ = some (.int .i64 t) := Blg.at 1 rfl
          have cg_2 : w2.cell? ⟨w.heap.size, 2, none⟩ = some (.float .f32 lv) := Blg.at 2 rfl
          go_wp2
          go_ret
          exact ⟨rfl, hs⟩
        · rw [if_neg h4] at he
          have hO := neg32_ord h4
          have H4 := Lib.hid h4
          clear h4
          by_cases h5 : neg32 lv = true
          · rw [if_pos h5] at he; subst he
            rw [h5] at hO
            clear h5
            have cg_0 : w1.cell? ⟨w.heap.size, 0, none⟩ = some (.int .i64 f) := Blg.at 0 rfl
            have cg_1 : w1.cell? ⟨w.heap.size, 1, none⟩ = some (.int .i64 t) := Blg.at 1 rfl
            have cg_2 : w1.cell? ⟨w.heap.size, 2, none⟩ = some (.float .f32 lv) := Blg.at 2 rfl
            go_wp2_with fail
            refine (r7_odd_no H4.out _).mono ?_
            rintro e w2 ⟨rfl, hb⟩
            replace hs := bStep hs hb
            replace Blg := Blg.mono hb
            clear hb
            clear cg_0 cg_1 cg_2
            have cg_0 : w2.cell? ⟨w.heap.size, 0, none⟩ = some (.int .i64 f) := Blg.at 0 rfl
            have cg_1 : w2.cell? ⟨w.heap.size, 1, none⟩ = some (.int .i64 t) := Blg.at 1 rfl
            have cg_2 : w2.cell? ⟨w.heap.size, 2, none⟩ = some (.float .f32 lv) := Blg.at 2 rfl
            go_wp2
            go_ret
            exact ⟨rfl, hs⟩
          · rw [if_neg h5] at he; subst he
            rw [Bool.eq_false_iff.2 h5] at hO
            clear h5
            have cg_0 : w1.cell? ⟨w.heap.size, 0, none⟩ = some (.int .i64 f) := Blg.at 0 rfl
            have cg_1 : w1.cell? ⟨w.heap.size, 1, none⟩ = some (.int .i64 t) := Blg.at 1 rfl
            have cg_2 : w1.cell? ⟨w.heap.size, 2, none⟩ = some (.float .f32 lv) := Blg.at 2 rfl
            go_wp2_with fail
            refine (r7_odd_no H4.out _).mono ?_
            rintro e w2 ⟨rfl, hb⟩
            replace hs := bStep hs hb
            replace Blg := Blg.mono hb
            clear hb
            clear cg_0 cg_1 cg_2
            have cg_0 : w2.cell? ⟨w.heap.size, 0, none⟩ = some (.int .i64 f) := Blg.at 0 rfl
            have cg_1 : w2.cell? ⟨w.heap.size, 1, none⟩ = some (.int .i64 t) := Blg.at 1 rfl
            have cg_2 : w2.cell? ⟨w.heap.size, 2, none⟩ = some (.float .f32 lv) := Blg.at 2 rfl
            go_wp2
            go_ret
            exact ⟨rfl, hs⟩
theorem r7_gate (f t n : Int) (lv : Nat) (w : World) : Calls Tryz.prog 70 #[.agg #[.int .i64 f, .int .i64 t, .float .f32 lv], .int .i64 n] w (RetV w (.int .i64 (gateE f t n lv))) := r7_gate0 f t n lv w _ rfl
end Go.Proofs.YtkfekkhhfpkfaaaGreat
