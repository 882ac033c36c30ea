/-
  Reference 07's tables: Table, Value.
-/
import Derived.Test.YtkfekkhhfpkfaaaGreatStepsQ
import Derived.Test.YtkfekkhhfpkfaaaGreatPkHeld3Q
import Derived.Test.YtkfekkhhfpkfaaaGreatPkOwnQ
import Derived.Test.YtkfekkhhfpkfaaaGreatPkSteps2Q
set_option linter.unusedSimpArgs false
set_option linter.unusedVariables false
set_option maxRecDepth 100000
set_option maxHeartbeats 16000000
namespace Go.Proofs.YtkfekkhhfpkfaaaGreat
open Go.RowKit Dg
attribute [local go_sem ↓] Go.wp_at_zero Go.wp_at_succ
theorem C2.openR {w : World} {cs : List Value} {x : Rat × Rat} (h : C2 RC w cs x) : ∃ g1 a1 n1 c1 A1 N1 D1 g2 a2 n2 c2 A2 N2 D2,
  cs = [.bool g1, .slice a1 n1 c1, .slice A1 N1 D1, .bool g2, .slice a2 n2 c2, .slice A2 N2 D2] ∧ RV w (.agg #[.bool g1, .slice a1 n1 c1, .slice A1 N1 D1]) x.1 ∧ RV w (.agg #[.bool g2, .slice a2 n2 c2, .slice A2 N2 D2]) x.2 := by
 obtain ⟨_, _, rfl, ⟨p1, p2, p3, rfl, h1⟩, ⟨q1, q2, q3, rfl, h2⟩⟩ := h
 obtain ⟨g1, a1, n1, c1, A1, N1, D1, e⟩ := h1.shape
 obtain ⟨rfl, rfl, rfl⟩ := agg3 e
 obtain ⟨g2, a2, n2, c2, A2, N2, D2, e⟩ := h2.shape
 obtain ⟨rfl, rfl, rfl⟩ := agg3 e
 exact ⟨_, _, _, _, _, _, _, _, _, _, _, _, _, _, rfl, h1, h2⟩
theorem rowSR_at {w : World} {U : TypeId} {b o n c : Nat} {T : List Stp} {i : Nat} (h : Rows 6 U (C2 RC) w (.slice (some ⟨b, o, none⟩) n c) T) (hi : i < T.length) :
  ∃ g1 a1 n1 c1 A1 N1 D1 g2 a2 n2 c2 A2 N2 D2, w.cell? ⟨b, o + i * 6, none⟩ = some (.bool g1) ∧ w.cell? ⟨b, o + i * 6 + 1, none⟩ = some (.slice a1 n1 c1) ∧ w.cell? ⟨b, o + i * 6 + 2, none⟩ = some (.slice A1 N1 D1)
   ∧ w.cell? ⟨b, o + i * 6 + 3, none⟩ = some (.bool g2) ∧ w.cell? ⟨b, o + i * 6 + 4, none⟩ = some (.slice a2 n2 c2) ∧ w.cell? ⟨b, o + i * 6 + 5, none⟩ = some (.slice A2 N2 D2)
   ∧ RV w (.agg #[.bool g1, .slice a1 n1 c1, .slice A1 N1 D1]) (taQ T i) ∧ RV w (.agg #[.bool g2, .slice a2 n2 c2, .slice A2 N2 D2]) (vaQ T i) ∧ b < w.heap.size := by
 obtain ⟨b', o', c', cs, hv, _, B8, hc⟩ := h.get (stp_some hi)
 obtain ⟨e, rfl⟩ := sliceE hv
 injection e with e
 injection e with e1 e2
 subst e1 e2
 obtain ⟨g1, a1, n1, c1, A1, N1, D1, g2, a2, n2, c2, A2, N2, D2, rfl, p1, p2⟩ := hc.openR
 exact ⟨_, _, _, _, _, _, _, _, _, _, _, _, _, _, B8 0 _ rfl, B8 1 _ rfl, B8 2 _ rfl, B8 3 _ rfl, B8 4 _ rfl, B8 5 _ rfl, p1, p2, cell_lt (B8 0 _ rfl)⟩
theorem rSame {vx vy : Value} {x y : Rat} {w : World} (hx : RV w vx x) (hy : RV w vy y) (fx : Fit x) (fy : Fit y) : Calls Tryz.prog 87 #[vx, vy] w (RetI w (.bool (decide (x = y)))) := r_Same_calls _ _ _ _ _ _ hx hy (Nat.le_refl _) fx fy
theorem r7_Table_none (v : Value) (T : List Stp) (w : World) (hl : Rows 6 155 (C2 RC) w v T) (h0 : T.length < 1) :
  Calls Tryz.prog 86 #[v] w (RetV w (.int .i64 4)) := by
 obtain ⟨ao, rc, rfl, hc1, hc2, hc3⟩ := hl.slice
 have hs := Below.refl w.heap.size w
 have HL := Lib.hid hl
 clear hl
 go_enter Tryz.func86, Tryz.ntmps86
 have q1 : T.length < 1 := by omega
 have q1d : ((T.length : Int) < 1) = True := eq_true (by omega)
 go_wp2
 go_ret
 exact ⟨rfl, hs⟩
theorem r7_Table_many (v : Value) (T : List Stp) (w : World) (hl : Rows 6 155 (C2 RC) w v T) (h0 : 12 < T.length) :
  Calls Tryz.prog 86 #[v] w (RetV w (.int .i64 4)) := by
 obtain ⟨ao, rc, rfl, hc1, hc2, hc3⟩ := hl.slice
 have hs := Below.refl w.heap.size w
 have HL := Lib.hid hl
 clear hl
 go_enter Tryz.func86, Tryz.ntmps86
 have q1 : ¬ (T.length < 1) := by omega
 have q1d : ((T.length : Int) < 1) = False := eq_false (by omega)
 have q2 : 12 < T.length := by omega
 have q2d : ((12 : Int) < (T.length : Int)) = True := eq_true (by omega)
 go_wp2
 go_ret
 exact ⟨rfl, hs⟩
theorem r7_Table_main (v : Value) (T : List Stp) (c : Int) (w : World) (hl : Rows 6 155 (C2 RC) w v T) (h1 : 1 ≤ T.length) (h12 : T.length ≤ 12) (hz : TabSz T) (hc : tabE T = c) :
  Calls Tryz.prog 86 #[v] w (RetV w (.int .i64 c)) := by
 obtain ⟨rb, ro, rc, rfl, hc1, hc2, -⟩ := hl.open_ (by omega)
 have hrb : rb < w.heap.size := hl.lt (by omega)
 have hs := Below.refl w.heap.size w
 have HL := Lib.hid hl
 clear hl
 have HZ := Lib.hid hz
 have HCC := Lib.hid hc
 clear hz hc
 go_enter Tryz.func86, Tryz.ntmps86
 have q1 : ¬ (T.length < 1) := by omega
 have q1d : ((T.length : Int) < 1) = False := eq_false (by omega)
 have q2 : ¬ (12 < T.length) := by omega
 have q2d : ((12 : Int) < (T.length : Int)) = False := eq_false (by omega)
 go_wp2
 go_loopw [3] (fun s3 wq => ∃ k : Nat, 1 ≤ k ∧ k ≤ T.length ∧ s3 = .int .i64 k ∧ Below w.heap.size w wq ∧ (ascB T k = true)) (fun s3 _ => T.length - (intOf s3).toNat)
 case atStart => exact ⟨1, Nat.le_refl _, by omega, rfl, hs, ascB_one T⟩
 case round =>
  clear hs
  obtain ⟨k, k_ge, k_le, rfl, hs, HE⟩ := hrel
  replace HE := Lib.hid HE
  by_cases q3 : k < T.length
  ·have q3d : ((k : Int) < (T.length : Int)) = True := eq_true (by omega)
   go_upto_region 6 with fail
   obtain ⟨Bn, Bj, Bp, Bl, Bd, Bh, Bf, _, _, _, _, _, _, _, B1, B2, B3, -, -, -, B9, -, le4⟩ := rowSR_at (HL.out.mono (C2.kept RC.kept) hs) (show k < T.length by omega)
   have SW5a := IntWalk.i64_in ((k : Int) - 1) (by omega)
   have SW5b : (0 : Int) ≤ (k : Int) - 1 := by omega
   have SW5c : ((k : Int) - 1).toNat = (k - 1) := by omega
   have SW5d : (k : Int) - 1 < (T.length : Int) := by omega
   have SW5e : (1 : Int) ≤ (k : Int) := by omega
   have SW5f : (k : Int) < (T.length : Int) + 1 := by omega
   obtain ⟨Bo, Bk, Bq, Bm, Be, Bi, Bg, _, _, _, _, _, _, _, B4, B5, B6, -, -, -, Ba, -, le6⟩ := rowSR_at (HL.out.mono (C2.kept RC.kept) hs) (show (k - 1) < T.length by omega)
   obtain ⟨Bc, B7⟩ : ∃ s : Int, s = sgQ ((taQ T k) - (taQ T (k - 1))) := ⟨_, rfl⟩
   replace B7 := Lib.hid B7
   refine U_region (S := fun w' => w'.cell? ⟨rb, ro + k * 6, none⟩ = some (.bool Bn) ∧ w'.cell? ⟨rb, ro + k * 6 + 1, none⟩ = some (.slice Bj Bp Bl) ∧ w'.cell? ⟨rb, ro + k * 6 + 2, none⟩ = some (.slice Bd Bh Bf) ∧ w'.cell? ⟨rb, ro + (k - 1) * 6, none⟩ = some (.bool Bo) ∧ w'.cell? ⟨rb, ro + (k - 1) * 6 + 1, none⟩ = some (.slice Bk Bq Bm) ∧ w'.cell? ⟨rb, ro + (k - 1) * 6 + 2, none⟩ = some (.slice Be Bi Bg)) (by kernel_rfl) 13 ?_
   refine AnyU.abs ?_
   intro Bb hW
   have hb : Below wr.heap.size wr Bb := by rw [hW]; exact bDrew _
   replace hs := bStep hs hb
   replace B9 := B9.mono hb
   replace Ba := Ba.mono hb
   replace B1 := cellK B1 hb
   replace B2 := cellK B2 hb
   replace B3 := cellK B3 hb
   replace B4 := cellK B4 hb
   replace B5 := cellK B5 hb
   replace B6 := cellK B6 hb
   clear hb hW
   have hH := (show Bb.cell? ⟨rb, ro + k * 6, none⟩ = some (.bool Bn) ∧ Bb.cell? ⟨rb, ro + k * 6 + 1, none⟩ = some (.slice Bj Bp Bl) ∧ Bb.cell? ⟨rb, ro + k * 6 + 2, none⟩ = some (.slice Bd Bh Bf) ∧ Bb.cell? ⟨rb, ro + (k - 1) * 6, none⟩ = some (.bool Bo) ∧ Bb.cell? ⟨rb, ro + (k - 1) * 6 + 1, none⟩ = some (.slice Bk Bq Bm) ∧ Bb.cell? ⟨rb, ro + (k - 1) * 6 + 2, none⟩ = some (.slice Be Bi Bg) from ⟨B1, B2, B3, B4, B5, B6⟩)
   refine U_tk 0 18 ?_ ?_ hH ?_
   rotate_left
   ·(intro w B0; (try dsimp only at B0); go_simp; try with_reducible rfl)
   simp only [LY]
   refine U_tk 1 19 ?_ ?_ hH ?_
   rotate_left
   ·(intro w B0; (try dsimp only at B0); go_simp; try with_reducible rfl)
   simp only [LY]
   refine U_tk 2 20 ?_ ?_ hH ?_
   rotate_left
   ·(intro w B0; (try dsimp only at B0); go_simp; try with_reducible rfl)
   simp only [LY]
   refine U_tk 3 21 ?_ ?_ hH ?_
   rotate_left
   ·(intro w B0; (try dsimp only at B0); go_simp; try with_reducible rfl)
   simp only [LY]
   refine U_tk 4 22 ?_ ?_ hH ?_
   rotate_left
   ·(intro w B0; (try dsimp only at B0); go_simp; try with_reducible rfl)
   simp only [LY]
   refine U_tk 5 23 ?_ ?_ hH ?_
   rotate_left
   ·(intro w B0; (try dsimp only at B0); go_simp; try with_reducible rfl)
   simp only [LY]
   refine U_tk 6 24 ?_ ?_ hH ?_
   rotate_left
   ·(intro w B0; (try dsimp only at B0); go_simp; try with_reducible rfl)
   simp only [LY]
   refine U_tk 7 25 ?_ ?_ hH ?_
   rotate_left
   ·(intro w B0; (try dsimp only at B0); go_simp; try with_reducible rfl)
   simp only [LY]
   refine U_tk 8 26 ?_ ?_ hH ?_
   rotate_left
   ·(intro w B0; (try dsimp only at B0); go_simp; try with_reducible rfl)
   simp only [LY]
   refine U_tk 9 27 ?_ ?_ hH ?_
   rotate_left
   ·(intro w B0; (try dsimp only at B0); go_simp; try with_reducible rfl)
   simp only [LY]
   refine U_tk 10 28 ?_ ?_ hH ?_
   rotate_left
   ·(intro w B0; (try dsimp only at B0); go_simp; try with_reducible rfl)
   simp only [LY]
   clear hH
   refine U_one (i := 11) (by kernel_rfl) rfl (fun K hK => ?_)
   go_simp
   (with_reducible refine (rCmp B9 Ba (SzQ.fit ((HZ.out k (by omega)).1)) (SzQ.fit ((HZ.out (k - 1) (by omega)).1))).mono ?_)
   rintro e w22 ⟨rfl, hb⟩
   replace hs := bStep hs hb
   replace B9 := B9.mono hb
   replace Ba := Ba.mono hb
   replace B1 := cellK B1 hb
   replace B2 := cellK B2 hb
   replace B3 := cellK B3 hb
   replace B4 := cellK B4 hb
   replace B5 := cellK B5 hb
   replace B6 := cellK B6 hb
   clear hb
   rw [← B7.out]
   try go_wp2_with fail
   refine hK.out _ _ ⟨B1, B2, B3, B4, B5, B6⟩ (fun hH => ?_)
   clear hK K
   try simp only [LY]
   refine U_tk 12 30 ?_ ?_ hH ?_
   rotate_left
   ·(intro w B0; (try dsimp only at B0); go_simp; try with_reducible rfl)
   simp only [LY]
   clear hH
   refine U_endN (by kernel_rfl) ?_
   clear B1 B2 B3 B4 B5 B6
   by_cases q8 : taQ T k ≤ taQ T (k - 1)
   ·have q8_ : Bc ≤ 0 := by have h := sq_le (taQ T k) (taQ T (k - 1)); rw [← B7.out] at h; exact h.2 q8
    have q8H := Lib.hid q8
    clear q8
    have q8d : decide (Bc ≤ 0) = true := decide_eq_true q8_
    go_wp2
    clear le4 le6
    go_ret
    exact ⟨by rw [← HCC.out, tabE_ord (by omega) (by omega) (ascB_bad (by omega) (by omega) q8H.out)]; rfl, hs⟩
   ·have q8_ : ¬ (Bc ≤ 0) := by have h := sq_le (taQ T k) (taQ T (k - 1)); rw [← B7.out] at h; exact fun h1 => q8 (h.1 h1)
    have q8H := Lib.hid q8
    clear q8
    have q8d : decide (Bc ≤ 0) = false := decide_eq_false q8_
    go_wp2
    go_roundw
    case rel => exact ⟨k + 1, by omega, by omega, by go_num, hs, ascB_step HE.out q8H.out⟩
    all_goals first | (simp [intOf]; done) | (simp [intOf]; omega)
  ·have q3d : ((k : Int) < (T.length : Int)) = False := eq_false (by omega)
   obtain rfl : k = T.length := by omega
   go_wp2
   go_ret
   exact ⟨by rw [← HCC.out, tabE_yes (by omega) (by omega) HE.out]; rfl, hs⟩
theorem r7_Table (v : Value) (T : List Stp) (w : World) (c : Int) (hl : Rows 6 155 (C2 RC) w v T) (hz : TabSz T) (hc : tabE T = c) : Calls Tryz.prog 86 #[v] w (RetV w (.int .i64 c)) := by
 by_cases h1 : T.length < 1
 ·unfold tabE at hc; rw [if_pos h1] at hc; subst hc; exact r7_Table_none v T w hl h1
 ·by_cases h2 : 12 < T.length
  ·unfold tabE at hc; rw [if_neg h1, if_pos h2] at hc; subst hc; exact r7_Table_many v T w hl h2
  ·exact r7_Table_main v T c w hl (by omega) (by omega) hz hc
theorem ta_mono {T : List Stp} (h : AscT T T.length) : ∀ k, k < T.length → taQ T 0 ≤ taQ T k
 | 0, _ => Rat.le_refl
 | k + 1, hk => by
  have h1 := ta_mono h k (by omega)
  have h2 := h k hk
  grind
def invT (T : List Stp) (x : Rat) (k : Nat) : Prop := (∀ j, j < k → taQ T j < x) ∨ x < taQ T 0
theorem invT_zero (T : List Stp) (x : Rat) : invT T x 0 := .inl fun j hj => absurd hj (Nat.not_lt_zero j)
theorem invT_step {T : List Stp} {x : Rat} {k : Nat} (h : invT T x k) (h1 : ¬ taQ T k = x) (h2 : ¬ (0 < k ∧ taQ T (k - 1) < x ∧ x < taQ T k)) : invT T x (k + 1) := by
 rcases h with h | h
 ·by_cases h3 : taQ T k < x
  ·exact .inl fun j hj => by
    by_cases e : j = k
    ·subst e; exact h3
    ·exact h j (by omega)
  ·by_cases h0 : k = 0
   ·subst h0; exact .inr (by grind)
   ·exact absurd ⟨by omega, h (k - 1) (by omega), by grind⟩ h2
 ·exact .inr h
theorem invT_lt {T : List Stp} {x : Rat} {k : Nat} (hA : AscT T T.length) (h : invT T x k) {j : Nat} (hj : j < T.length) (h1 : taQ T j ≤ x) : ∀ j, j < k → taQ T j < x := by
 rcases h with h | h
 ·exact h
 ·have := ta_mono hA j hj; exact absurd h (by grind)
theorem itp_ref (T : List Stp) (x : Rat) (k : Nat) (h : taQ T k - taQ T (k - 1) ≠ 0) : vaQ T (k - 1) + (x - taQ T (k - 1)) / (taQ T k - taQ T (k - 1)) * (vaQ T k - vaQ T (k - 1)) = itpQ T x k := by
 unfold itpQ
 grind
theorem valQ_end {T : List Stp} {x : Rat} (h : invT T x T.length) (h1 : 1 ≤ T.length) : valQ T x = (0, 5) := by
 rcases h with h | h
 ·exact valQ_last h
 ·exact valQ_first h1 h
end Go.Proofs.YtkfekkhhfpkfaaaGreat
namespace Go.Proofs.YtkfekkhhfpkfaaaGreat
open Go.RowKit Dg
attribute [local go_sem ↓] Go.wp_at_zero Go.wp_at_succ
theorem r7_Value_ok (v : Value) (T : List Stp) (vx : Value) (x q : Rat) (c : Int) (w : World) (hl : Rows 6 155 (C2 RC) w v T) (h1 : 1 ≤ T.length) (hz : TabSz T) (hx : RV w vx x) (sx : SzQ 100 x) (hte : tabE T = 0) (hasc : AscT T T.length) (hv : valQ T x = (q, c)) :
  Calls Tryz.prog 27 #[v, vx] w (Ret2 (fun w v => RV w v q) (fun _ v => v = .int .i64 c) w) := by
 obtain ⟨rb, ro, rc, rfl, hc1, hc2, -⟩ := hl.open_ (by omega)
 have hrb : rb < w.heap.size := hl.lt (by omega)
 have hs := Below.refl w.heap.size w
 have HL := Lib.hid hl
 clear hl
 obtain ⟨Cl, Cb, Cj, Cd, C5, C9, C7, rfl⟩ := hx.shape
 have HZ := Lib.hid hz
 have Dk := Lib.hid hv
 have HTE := Lib.hid hte
 have Ev := Lib.hid hasc
 clear hz hv hte hasc
 go_enter Tryz.func27, Tryz.ntmps27
 go_wp2_with fail
 refine Calls.abs ?_
 intro w1 hW
 have hG : Gr [] w w1 := by rw [hW]; exact (Gr.refl _ _).alloc.alloc
 have Bp : Below w.heap.size w w1 := hG.below0 hs.size
 have hk : KeepD w w1 := hG.keep True.intro
 have Ju : w.heap.size ≤ w.heap.size := hs.size
 have B2 : Bx w1 (w.heap.size) 38 #[.bool Cl, .slice Cb Cj Cd, .slice C5 C9 C7] := by rw [hW]; exact ((Bx.new0 _ _ _).alloc _)
 have Blk : Bx w1 (w.heap.size + 1) 38 #[.bool false, .slice none 0 0, .slice none 0 0] := by rw [hW]; exact (Bx.new0 _ _ _)
 replace hs := hs.trans Bp
 replace hx := hx.keep hk
 clear hW hG hk Bp
 have Js := Blk.lt
 with_reducible refine (r7_Table _ T _ 0 (HL.out.mono (C2.kept RC.kept) hs) HZ.out HTE.out).mono ?_
 rintro e w2 ⟨rfl, hb⟩
 replace hs := bStep hs hb
 replace B2 := B2.mono hb
 replace Blk := Blk.mono hb
 replace hx := hx.mono hb
 clear hb
 go_wp2
 go_loopw [7] (fun s7 wq => ∃ k : Nat, k ≤ T.length ∧ s7 = .int .i64 k ∧ Below w.heap.size w wq ∧ Bx wq (w.heap.size) 38 #[.bool Cl, .slice Cb Cj Cd, .slice C5 C9 C7] ∧ Bx wq (w.heap.size + 1) 38 #[.bool false, .slice none 0 0, .slice none 0 0] ∧ RV wq (.agg #[.bool Cl, .slice Cb Cj Cd, .slice C5 C9 C7]) (x) ∧ (invT T x k)) (fun s7 _ => T.length - (intOf s7).toNat)
 case atStart => exact ⟨0, Nat.zero_le _, rfl, hs, B2, Blk, hx, invT_zero T x⟩
 case round =>
  clear B2 Blk hx hs
  obtain ⟨k, k_le, rfl, hs, B2, Blk, hx, HE⟩ := hrel
  replace HE := Lib.hid HE
  by_cases q1 : k < T.length
  ·have q1d : ((k : Int) < (T.length : Int)) = True := eq_true (by omega)
   go_upto_region 7 with fail
   obtain ⟨Jn, Jj, Jo, Jl, Jd, Jh, Jg, _, _, _, _, _, _, _, D2, D3, D4, -, -, -, Cz, -, le2⟩ := rowSR_at (HL.out.mono (C2.kept RC.kept) hs) (show k < T.length by omega)
   obtain ⟨b3, Ef⟩ : ∃ b : Bool, b = decide (taQ T k = x) := ⟨_, rfl⟩
   replace Ef := Lib.hid Ef
   refine U_region (S := fun w' => w'.cell? ⟨w.heap.size, 0, none⟩ = some (.bool Cl) ∧ w'.cell? ⟨w.heap.size, 1, none⟩ = some (.slice Cb Cj Cd) ∧ w'.cell? ⟨w.heap.size, 2, none⟩ = some (.slice C5 C9 C7) ∧ w'.cell? ⟨rb, ro + k * 6, none⟩ = some (.bool Jn) ∧ w'.cell? ⟨rb, ro + k * 6 + 1, none⟩ = some (.slice Jj Jo Jl) ∧ w'.cell? ⟨rb, ro + k * 6 + 2, none⟩ = some (.slice Jd Jh Jg)) (by kernel_rfl) 7 ?_
   refine AnyU.abs ?_
   intro Co hW
   have hb : Below wr.heap.size wr Co := by rw [hW]; exact bDrew _
   replace hs := bStep hs hb
   replace B2 := B2.mono hb
   replace Blk := Blk.mono hb
   replace hx := hx.mono hb
   replace Cz := Cz.mono hb
   replace D2 := cellK D2 hb
   replace D3 := cellK D3 hb
   replace D4 := cellK D4 hb
   clear hb hW
   have B3 := B2.a0
   have B4 := B2.a1
   have B5 := B2.a2
   have hH := (show Co.cell? ⟨w.heap.size, 0, none⟩ = some (.bool Cl) ∧ Co.cell? ⟨w.heap.size, 1, none⟩ = some (.slice Cb Cj Cd) ∧ Co.cell? ⟨w.heap.size, 2, none⟩ = some (.slice C5 C9 C7) ∧ Co.cell? ⟨rb, ro + k * 6, none⟩ = some (.bool Jn) ∧ Co.cell? ⟨rb, ro + k * 6 + 1, none⟩ = some (.slice Jj Jo Jl) ∧ Co.cell? ⟨rb, ro + k * 6 + 2, none⟩ = some (.slice Jd Jh Jg) from ⟨B3, B4, B5, D2, D3, D4⟩)
   refine U_tk 0 21 ?_ ?_ hH ?_
   rotate_left
   ·(intro w B0; (try dsimp only at B0); go_simp; try with_reducible rfl)
   simp only [LY]
   refine U_tk 1 22 ?_ ?_ hH ?_
   rotate_left
   ·(intro w B0; (try dsimp only at B0); go_simp; try with_reducible rfl)
   simp only [LY]
   refine U_tk 2 23 ?_ ?_ hH ?_
   rotate_left
   ·(intro w B0; (try dsimp only at B0); go_simp; try with_reducible rfl)
   simp only [LY]
   refine U_tk 3 24 ?_ ?_ hH ?_
   rotate_left
   ·(intro w B0; (try dsimp only at B0); go_simp; try with_reducible rfl)
   simp only [LY]
   refine U_tk 4 25 ?_ ?_ hH ?_
   rotate_left
   ·(intro w B0; (try dsimp only at B0); go_simp; try with_reducible rfl)
   simp only [LY]
   refine U_tk 5 26 ?_ ?_ hH ?_
   rotate_left
   ·(intro w B0; (try dsimp only at B0); go_simp; try with_reducible rfl)
   simp only [LY]
   clear hH
   refine U_one (i := 6) (by kernel_rfl) rfl (fun K hK => ?_)
   go_simp
   (with_reducible refine (rSame Cz hx (SzQ.fit ((HZ.out k (by omega)).1)) (SzQ.fit sx)).mono ?_)
   rintro e w24 ⟨rfl, hb⟩
   replace hs := bStep hs hb
   replace B2 := B2.mono hb
   replace Blk := Blk.mono hb
   replace hx := hx.mono hb
   replace Cz := Cz.mono hb
   replace B3 := cellK B3 hb
   replace B4 := cellK B4 hb
   replace B5 := cellK B5 hb
   replace D2 := cellK D2 hb
   replace D3 := cellK D3 hb
   replace D4 := cellK D4 hb
   clear hb
   rw [← Ef.out]
   try go_wp2_with fail
   refine hK.out _ _ ⟨B3, B4, B5, D2, D3, D4⟩ (fun hH => ?_)
   clear hK K
   try simp only [LY]
   clear hH
   refine U_endN (by kernel_rfl) ?_
   clear B3 B4 B5 D2 D3 D4
   by_cases q4 : taQ T k = x
   ·obtain rfl : b3 = true := by rw [Ef.out]; exact decide_eq_true q4
    have D9 := Lib.hid q4
    clear q4
    obtain ⟨_, _, _, _, _, _, _, El, Ej, En, Ek, Eg, Ei, Eh, -, -, -, Jv, Jw, Jx, -, Em, le5⟩ := rowSR_at (HL.out.mono (C2.kept RC.kept) hs) (show k < T.length by omega)
    have Ce := Blk.a0
    have Cf := Blk.a1
    have Cg := Blk.a2
    have fk := Blk.free
    have Lk := Blk.lt
    go_wp2
    clear Ce Cf Cg fk Lk le2 le5 Jv Jw Jx
    refine bodyPost.abs ?_
    intro Bk hW
    have hG : Gr [w.heap.size + 1] w24 Bk := by rw [hW]; exact (Gr.refl _ _).set.set.set
    have Cv := hs.size
    have lk := Blk.lt
    have Bp : Below w.heap.size w24 Bk := hG.below1 hs.size (by first | omega | assumption)
    have hk : KeepD w24 Bk := hG.keep ⟨⟨_, Blk.ty, by decide⟩, True.intro⟩
    have Cu : Bx Bk (w.heap.size + 1) 38 #[.bool El, .slice Ej En Ek, .slice Eg Ei Eh] := by rw [hW]; exact Blk.set3
    replace hs := hs.trans Bp
    replace B2 := hG.bx B2 (notMem1 (by omega))
    replace Blk := Cu
    clear Cu
    replace hx := hx.keep hk
    replace Cz := Cz.keep hk
    replace Em := Em.keep hk
    clear hW hG hk Bp Cv lk
    have Ce := Blk.a0
    have Cf := Blk.a1
    have Cg := Blk.a2
    exact bodyPost_ret (v := .tuple #[.agg #[.bool El, .slice Ej En Ek, .slice Eg Ei Eh], .int .i64 0]) (by simp [results, Tryz.results27, go_sem, Ce, Cf, Cg]) rfl ⟨_, _, rfl, Em.of_eq (Prod.mk.inj ((valQ_eq (by omega) (invT_lt Ev.out HE.out (show k < T.length by omega) (by rw [D9.out]; exact Rat.le_refl)) D9.out.symm).symm.trans Dk.out)).1, congrArg (Value.int .i64) (Prod.mk.inj ((valQ_eq (by omega) (invT_lt Ev.out HE.out (show k < T.length by omega) (by rw [D9.out]; exact Rat.le_refl)) D9.out.symm).symm.trans Dk.out)).2, hs⟩
   ·obtain rfl : b3 = false := by rw [Ef.out]; exact decide_eq_false q4
    have D9 := Lib.hid q4
    clear q4
    go_upto_region 9 with fail
    clear le2
    clear Cz
    by_cases q5 : 0 < k
    ·have q5d : ((0 : Int) < (k : Int)) = True := eq_true (by omega)
     have SW6a := IntWalk.i64_in ((k : Int) - 1) (by omega)
     have SW6b : (0 : Int) ≤ (k : Int) - 1 := by omega
     have SW6c : ((k : Int) - 1).toNat = (k - 1) := by omega
     have SW6d : (k : Int) - 1 < (T.length : Int) := by omega
     have SW6e : (1 : Int) ≤ (k : Int) := by omega
     have SW6f : (k : Int) < (T.length : Int) + 1 := by omega
     obtain ⟨E8, E0, Eb, E4, Do, Dw, Dt, _, _, _, _, _, _, _, By, Bz, C0, -, -, -, Cq, -, le7⟩ := rowSR_at (HL.out.mono (C2.kept RC.kept) hs) (show (k - 1) < T.length by omega)
     obtain ⟨Jc, D7⟩ : ∃ s : Int, s = sgQ ((taQ T (k - 1)) - x) := ⟨_, rfl⟩
     replace D7 := Lib.hid D7
     by_cases q9 : taQ T (k - 1) < x
     ·have q9_ : Jc < 0 := by have h := sq_lt (taQ T (k - 1)) x; rw [← D7.out] at h; exact h.2 q9
      have D1 := Lib.hid q9
      clear q9
      have q9d : decide (Jc < 0) = true := decide_eq_true q9_
      obtain ⟨J5, Ez, J9, J2, Ep, Ew, Es, _, _, _, _, _, _, _, Cr, Cs, Ct, -, -, -, Cy, -, le10⟩ := rowSR_at (HL.out.mono (C2.kept RC.kept) hs) (show k < T.length by omega)
      obtain ⟨Ed, D6⟩ : ∃ s : Int, s = sgQ (x - (taQ T k)) := ⟨_, rfl⟩
      replace D6 := Lib.hid D6
      refine U_region (S := fun w' => w'.cell? ⟨w.heap.size, 0, none⟩ = some (.bool Cl) ∧ w'.cell? ⟨w.heap.size, 1, none⟩ = some (.slice Cb Cj Cd) ∧ w'.cell? ⟨w.heap.size, 2, none⟩ = some (.slice C5 C9 C7) ∧ w'.cell? ⟨rb, ro + (k - 1) * 6, none⟩ = some (.bool E8) ∧ w'.cell? ⟨rb, ro + (k - 1) * 6 + 1, none⟩ = some (.slice E0 Eb E4) ∧ w'.cell? ⟨rb, ro + (k - 1) * 6 + 2, none⟩ = some (.slice Do Dw Dt) ∧ w'.cell? ⟨rb, ro + k * 6, none⟩ = some (.bool J5) ∧ w'.cell? ⟨rb, ro + k * 6 + 1, none⟩ = some (.slice Ez J9 J2) ∧ w'.cell? ⟨rb, ro + k * 6 + 2, none⟩ = some (.slice Ep Ew Es)) (by kernel_rfl) 23 ?_
      refine AnyU.abs ?_
      intro Bk hW
      have hb : Below w24.heap.size w24 Bk := by rw [hW]; exact bDrew _
      replace hs := bStep hs hb
      replace B2 := B2.mono hb
      replace Blk := Blk.mono hb
      replace hx := hx.mono hb
      replace Cq := Cq.mono hb
      replace Cy := Cy.mono hb
      replace By := cellK By hb
      replace Bz := cellK Bz hb
      replace C0 := cellK C0 hb
      replace Cr := cellK Cr hb
      replace Cs := cellK Cs hb
      replace Ct := cellK Ct hb
      clear hb hW
      have B3 := B2.a0
      have B4 := B2.a1
      have B5 := B2.a2
      have hH := (show Bk.cell? ⟨w.heap.size, 0, none⟩ = some (.bool Cl) ∧ Bk.cell? ⟨w.heap.size, 1, none⟩ = some (.slice Cb Cj Cd) ∧ Bk.cell? ⟨w.heap.size, 2, none⟩ = some (.slice C5 C9 C7) ∧ Bk.cell? ⟨rb, ro + (k - 1) * 6, none⟩ = some (.bool E8) ∧ Bk.cell? ⟨rb, ro + (k - 1) * 6 + 1, none⟩ = some (.slice E0 Eb E4) ∧ Bk.cell? ⟨rb, ro + (k - 1) * 6 + 2, none⟩ = some (.slice Do Dw Dt) ∧ Bk.cell? ⟨rb, ro + k * 6, none⟩ = some (.bool J5) ∧ Bk.cell? ⟨rb, ro + k * 6 + 1, none⟩ = some (.slice Ez J9 J2) ∧ Bk.cell? ⟨rb, ro + k * 6 + 2, none⟩ = some (.slice Ep Ew Es) from ⟨B3, B4, B5, By, Bz, C0, Cr, Cs, Ct⟩)
      refine U_tk 0 33 ?_ ?_ hH ?_
      rotate_left
      ·(intro w B0; (try dsimp only at B0); go_simp; try with_reducible rfl)
      simp only [LY]
      refine U_tk 1 34 ?_ ?_ hH ?_
      rotate_left
      ·(intro w B0; (try dsimp only at B0); go_simp; try with_reducible rfl)
      simp only [LY]
      refine U_tk 2 35 ?_ ?_ hH ?_
      rotate_left
      ·(intro w B0; (try dsimp only at B0); go_simp; try with_reducible rfl)
      simp only [LY]
      refine U_tk 3 36 ?_ ?_ hH ?_
      rotate_left
      ·(intro w B0; (try dsimp only at B0); go_simp; try with_reducible rfl)
      simp only [LY]
      refine U_tk 4 37 ?_ ?_ hH ?_
      rotate_left
      ·(intro w B0; (try dsimp only at B0); go_simp; try with_reducible rfl)
      simp only [LY]
      refine U_tk 5 38 ?_ ?_ hH ?_
      rotate_left
      ·(intro w B0; (try dsimp only at B0); go_simp; try with_reducible rfl)
      simp only [LY]
      refine U_tk 6 39 ?_ ?_ hH ?_
      rotate_left
      ·(intro w B0; (try dsimp only at B0); go_simp; try with_reducible rfl)
      simp only [LY]
      refine U_tk 7 40 ?_ ?_ hH ?_
      rotate_left
      ·(intro w B0; (try dsimp only at B0); go_simp; try with_reducible rfl)
      simp only [LY]
      refine U_tk 8 41 ?_ ?_ hH ?_
      rotate_left
      ·(intro w B0; (try dsimp only at B0); go_simp; try with_reducible rfl)
      simp only [LY]
      refine U_tk 9 42 ?_ ?_ hH ?_
      rotate_left
      ·(intro w B0; (try dsimp only at B0); go_simp; try with_reducible rfl)
      simp only [LY]
      clear hH
      refine U_one (i := 10) (by kernel_rfl) rfl (fun K hK => ?_)
      go_simp
      (with_reducible refine (rCmp Cq hx (SzQ.fit ((HZ.out (k - 1) (by omega)).1)) (SzQ.fit sx)).mono ?_)
      rintro e w26 ⟨rfl, hb⟩
      replace hs := bStep hs hb
      replace B2 := B2.mono hb
      replace Blk := Blk.mono hb
      replace hx := hx.mono hb
      replace Cq := Cq.mono hb
      replace Cy := Cy.mono hb
      replace B3 := cellK B3 hb
      replace B4 := cellK B4 hb
      replace B5 := cellK B5 hb
      replace By := cellK By hb
      replace Bz := cellK Bz hb
      replace C0 := cellK C0 hb
      replace Cr := cellK Cr hb
      replace Cs := cellK Cs hb
      replace Ct := cellK Ct hb
      clear hb
      rw [← D7.out]
      try go_wp2_with fail
      refine hK.out _ _ ⟨B3, B4, B5, By, Bz, C0, Cr, Cs, Ct⟩ (fun hH => ?_)
      clear hK K
      try simp only [LY]
      refine U_tk 11 44 ?_ ?_ hH ?_
      rotate_left
      ·(intro w B0; (try dsimp only at B0); go_simp; try with_reducible rfl)
      simp only [LY]
      refine U_tk 12 45 ?_ ?_ hH ?_
      rotate_left
      ·(intro w B0; (try dsimp only at B0); go_simp; try with_reducible rfl)
      simp only [LY]
      refine U_tk 13 46 ?_ ?_ hH ?_
      rotate_left
      ·(intro w B0; (try dsimp only at B0); go_simp; try with_reducible rfl)
      simp only [LY]
      refine U_tk 14 47 ?_ ?_ hH ?_
      rotate_left
      ·(intro w B0; (try dsimp only at B0); go_simp; try with_reducible rfl)
      simp only [LY]
      refine U_tk 15 48 ?_ ?_ hH ?_
      rotate_left
      ·(intro w B0; (try dsimp only at B0); go_simp; try with_reducible rfl)
      simp only [LY]
      refine U_tk 16 49 ?_ ?_ hH ?_
      rotate_left
      ·(intro w B0; (try dsimp only at B0); go_simp; try with_reducible rfl)
      simp only [LY]
      refine U_tk 17 50 ?_ ?_ hH ?_
      rotate_left
      ·(intro w B0; (try dsimp only at B0); go_simp; try with_reducible rfl)
      simp only [LY]
      refine U_tk 18 51 ?_ ?_ hH ?_
      rotate_left
      ·(intro w B0; (try dsimp only at B0); go_simp; try with_reducible rfl)
      simp only [LY]
      refine U_tk 19 52 ?_ ?_ hH ?_
      rotate_left
      ·(intro w B0; (try dsimp only at B0); go_simp; try with_reducible rfl)
      simp only [LY]
      clear hH
      refine U_one (i := 20) (by kernel_rfl) rfl (fun K hK => ?_)
      go_simp
      (with_reducible refine (rCmp hx Cy (SzQ.fit sx) (SzQ.fit ((HZ.out k (by omega)).1))).mono ?_)
      rintro e w27 ⟨rfl, hb⟩
      replace hs := bStep hs hb
      replace B2 := B2.mono hb
      replace Blk := Blk.mono hb
      replace hx := hx.mono hb
      replace Cq := Cq.mono hb
      replace Cy := Cy.mono hb
      replace B3 := cellK B3 hb
      replace B4 := cellK B4 hb
      replace B5 := cellK B5 hb
      replace By := cellK By hb
      replace Bz := cellK Bz hb
      replace C0 := cellK C0 hb
      replace Cr := cellK Cr hb
      replace Cs := cellK Cs hb
      replace Ct := cellK Ct hb
      clear hb
      rw [← D6.out]
      try go_wp2_with fail
      refine hK.out _ _ ⟨B3, B4, B5, By, Bz, C0, Cr, Cs, Ct⟩ (fun hH => ?_)
      clear hK K
      try simp only [LY]
      refine U_tk 21 54 ?_ ?_ hH ?_
      rotate_left
      ·(intro w B0; (try dsimp only at B0); go_simp; try with_reducible rfl)
      simp only [LY]
      refine U_tk 22 55 ?_ ?_ hH ?_
      rotate_left
      ·(intro w B0; (try dsimp only at B0); go_simp; try with_reducible rfl)
      simp only [LY]
      clear hH
      refine U_endN (by kernel_rfl) ?_
      clear B3 B4 B5 By Bz C0 Cr Cs Ct
      by_cases q12 : x < taQ T k
      ·have Eo : Ed < 0 := by have h := sq_lt x (taQ T k); rw [← D6.out] at h; exact h.2 q12
       have Cx := Lib.hid q12
       clear q12
       have q12d : decide (Ed < 0) = true := decide_eq_true Eo
       go_upto_region 10 with fail
       clear le7 le10
       clear Cq Cy
       obtain ⟨E6, Dy, E9, E2, Dm, Du, Dr, _, _, _, _, _, _, _, B8, B9, Ba, -, -, -, B6, -, le13⟩ := rowSR_at (HL.out.mono (C2.kept RC.kept) hs) (show (k - 1) < T.length by omega)
       obtain ⟨E7, Dz, Ea, E3, Dn, Dv, Ds, _, _, _, _, _, _, _, Bb, Bc, Bd, -, -, -, B7, -, le15⟩ := rowSR_at (HL.out.mono (C2.kept RC.kept) hs) (show k < T.length by omega)
       go_cut [8] (fun kv0 wz => ∃ Bn Ck Ca Ci Cc C4 C8 C6, kv0 = .pointer (some ⟨Bn, 0, none⟩) ∧ w.heap.size ≤ Bn ∧ Bn ≠ w.heap.size ∧ Bn ≠ (w.heap.size + 1) ∧ Bx wz Bn 38 #[.bool Ck, .slice Ca Ci Cc, .slice C4 C8 C6] ∧ Below w.heap.size w wz ∧ Bx wz (w.heap.size) 38 #[.bool Cl, .slice Cb Cj Cd, .slice C5 C9 C7] ∧ Bx wz (w.heap.size + 1) 38 #[.bool false, .slice none 0 0, .slice none 0 0] ∧ RV wz (.agg #[.bool Cl, .slice Cb Cj Cd, .slice C5 C9 C7]) (x) ∧ RV wz (.agg #[.bool E6, .slice Dy E9 E2, .slice Dm Du Dr]) (taQ T (k - 1)) ∧ RV wz (.agg #[.bool E7, .slice Dz Ea E3, .slice Dn Dv Ds]) (taQ T k) ∧ RV wz (.agg #[.bool Ck, .slice Ca Ci Cc, .slice C4 C8 C6]) ((x - (taQ T (k - 1))) / (taQ T k - (taQ T (k - 1)))))
       case first =>
        refine U_region (S := fun w' => w'.cell? ⟨w.heap.size, 0, none⟩ = some (.bool Cl) ∧ w'.cell? ⟨w.heap.size, 1, none⟩ = some (.slice Cb Cj Cd) ∧ w'.cell? ⟨w.heap.size, 2, none⟩ = some (.slice C5 C9 C7) ∧ w'.cell? ⟨rb, ro + (k - 1) * 6, none⟩ = some (.bool E6) ∧ w'.cell? ⟨rb, ro + (k - 1) * 6 + 1, none⟩ = some (.slice Dy E9 E2) ∧ w'.cell? ⟨rb, ro + (k - 1) * 6 + 2, none⟩ = some (.slice Dm Du Dr) ∧ w'.cell? ⟨rb, ro + k * 6, none⟩ = some (.bool E7) ∧ w'.cell? ⟨rb, ro + k * 6 + 1, none⟩ = some (.slice Dz Ea E3) ∧ w'.cell? ⟨rb, ro + k * 6 + 2, none⟩ = some (.slice Dn Dv Ds)) (by kernel_rfl) 22 ?_
        refine AnyU.abs ?_
        intro Bh hW
        have hb : Below w27.heap.size w27 Bh := by rw [hW]; exact bDrew _
        replace hs := bStep hs hb
        replace B2 := B2.mono hb
        replace Blk := Blk.mono hb
        replace hx := hx.mono hb
        replace B6 := B6.mono hb
        replace B7 := B7.mono hb
        replace B8 := cellK B8 hb
        replace B9 := cellK B9 hb
        replace Ba := cellK Ba hb
        replace Bb := cellK Bb hb
        replace Bc := cellK Bc hb
        replace Bd := cellK Bd hb
        clear hb hW
        have B3 := B2.a0
        have B4 := B2.a1
        have B5 := B2.a2
        have hH := (show Bh.cell? ⟨w.heap.size, 0, none⟩ = some (.bool Cl) ∧ Bh.cell? ⟨w.heap.size, 1, none⟩ = some (.slice Cb Cj Cd) ∧ Bh.cell? ⟨w.heap.size, 2, none⟩ = some (.slice C5 C9 C7) ∧ Bh.cell? ⟨rb, ro + (k - 1) * 6, none⟩ = some (.bool E6) ∧ Bh.cell? ⟨rb, ro + (k - 1) * 6 + 1, none⟩ = some (.slice Dy E9 E2) ∧ Bh.cell? ⟨rb, ro + (k - 1) * 6 + 2, none⟩ = some (.slice Dm Du Dr) ∧ Bh.cell? ⟨rb, ro + k * 6, none⟩ = some (.bool E7) ∧ Bh.cell? ⟨rb, ro + k * 6 + 1, none⟩ = some (.slice Dz Ea E3) ∧ Bh.cell? ⟨rb, ro + k * 6 + 2, none⟩ = some (.slice Dn Dv Ds) from ⟨B3, B4, B5, B8, B9, Ba, Bb, Bc, Bd⟩)
        refine U_tt 0 ?_ ?_ hH ?_
        rotate_left
        ·(intro w B0; (try dsimp only at B0); go_simp; try with_reducible rfl)
        try simp only [LY]
        refine U_tt 1 ?_ ?_ hH ?_
        rotate_left
        ·(intro w B0; (try dsimp only at B0); go_simp; try with_reducible rfl)
        try simp only [LY]
        refine U_tt 2 ?_ ?_ hH ?_
        rotate_left
        ·(intro w B0; (try dsimp only at B0); go_simp; try with_reducible rfl)
        try simp only [LY]
        refine U_tt 3 ?_ ?_ hH ?_
        rotate_left
        ·(intro w B0; (try dsimp only at B0); go_simp; try with_reducible rfl)
        try simp only [LY]
        refine U_tt 4 ?_ ?_ hH ?_
        rotate_left
        ·(intro w B0; (try dsimp only at B0); go_simp; try with_reducible rfl)
        try simp only [LY]
        refine U_tt 5 ?_ ?_ hH ?_
        rotate_left
        ·(intro w B0; (try dsimp only at B0); go_simp; try with_reducible rfl)
        try simp only [LY]
        refine U_tt 6 ?_ ?_ hH ?_
        rotate_left
        ·(intro w B0; (try dsimp only at B0); go_simp; try with_reducible rfl)
        try simp only [LY]
        refine U_tt 8 ?_ ?_ hH ?_
        rotate_left
        ·(intro w B0; (try dsimp only at B0); go_simp; try with_reducible rfl)
        try simp only [LY]
        refine U_tt 9 ?_ ?_ hH ?_
        rotate_left
        ·(intro w B0; (try dsimp only at B0); go_simp; try with_reducible rfl)
        try simp only [LY]
        refine U_tt 10 ?_ ?_ hH ?_
        rotate_left
        ·(intro w B0; (try dsimp only at B0); go_simp; try with_reducible rfl)
        try simp only [LY]
        refine U_tt 11 ?_ ?_ hH ?_
        rotate_left
        ·(intro w B0; (try dsimp only at B0); go_simp; try with_reducible rfl)
        try simp only [LY]
        refine U_tt 12 ?_ ?_ hH ?_
        rotate_left
        ·(intro w B0; (try dsimp only at B0); go_simp; try with_reducible rfl)
        try simp only [LY]
        refine U_tt 13 ?_ ?_ hH ?_
        rotate_left
        ·(intro w B0; (try dsimp only at B0); go_simp; try with_reducible rfl)
        try simp only [LY]
        refine U_tt 14 ?_ ?_ hH ?_
        rotate_left
        ·(intro w B0; (try dsimp only at B0); go_simp; try with_reducible rfl)
        try simp only [LY]
        refine U_tt 15 ?_ ?_ hH ?_
        rotate_left
        ·(intro w B0; (try dsimp only at B0); go_simp; try with_reducible rfl)
        try simp only [LY]
        refine U_tt 16 ?_ ?_ hH ?_
        rotate_left
        ·(intro w B0; (try dsimp only at B0); go_simp; try with_reducible rfl)
        try simp only [LY]
        refine U_tt 17 ?_ ?_ hH ?_
        rotate_left
        ·(intro w B0; (try dsimp only at B0); go_simp; try with_reducible rfl)
        try simp only [LY]
        refine U_tt 18 ?_ ?_ hH ?_
        rotate_left
        ·(intro w B0; (try dsimp only at B0); go_simp; try with_reducible rfl)
        try simp only [LY]
        refine U_two (i := 7) (j := 21) (by kernel_rfl) rfl rfl (fun K hK => ?_) (fun K hK => ?_)
        ·clear hH
         go_simp
         (with_reducible refine (rSub hx B6 (SzQ.fit sx) (SzQ.fit ((HZ.out (k - 1) (by omega)).1))).mono ?_)
         rintro e Cp ⟨_, rfl, Bj, hb⟩
         obtain ⟨sh14, ah14, nh14, ch14, Ah14, Nh14, Ch14, rfl⟩ := Bj.shape
         replace hs := bStep hs hb
         replace B2 := B2.mono hb
         replace Blk := Blk.mono hb
         replace hx := hx.mono hb
         replace B6 := B6.mono hb
         replace B7 := B7.mono hb
         replace B3 := cellK B3 hb
         replace B4 := cellK B4 hb
         replace B5 := cellK B5 hb
         replace B8 := cellK B8 hb
         replace B9 := cellK B9 hb
         replace Ba := cellK Ba hb
         replace Bb := cellK Bb hb
         replace Bc := cellK Bc hb
         replace Bd := cellK Bd hb
         clear hb
         try go_wp2_with fail
         refine hK.out _ _ ⟨B3, B4, B5, B8, B9, Ba, Bb, Bc, Bd⟩ (fun hH => ?_)
         clear hK K
         try simp only [LY]
         refine U_two (i := 19) (j := 21) (by kernel_rfl) rfl rfl (fun K hK => ?_) (fun K hK => ?_)
         ·clear hH
          go_simp
          (with_reducible refine (rSub B7 B6 (SzQ.fit ((HZ.out k (by omega)).1)) (SzQ.fit ((HZ.out (k - 1) (by omega)).1))).mono ?_)
          rintro e Cm ⟨_, rfl, Bo, hb⟩
          obtain ⟨Jq, Jk, Jp, Jm, Je, Ji, Jf, rfl⟩ := Bo.shape
          replace hs := bStep hs hb
          replace B2 := B2.mono hb
          replace Blk := Blk.mono hb
          replace hx := hx.mono hb
          replace B6 := B6.mono hb
          replace B7 := B7.mono hb
          replace Bj := Bj.mono hb
          replace B3 := cellK B3 hb
          replace B4 := cellK B4 hb
          replace B5 := cellK B5 hb
          replace B8 := cellK B8 hb
          replace B9 := cellK B9 hb
          replace Ba := cellK Ba hb
          replace Bb := cellK Bb hb
          replace Bc := cellK Bc hb
          replace Bd := cellK Bd hb
          clear hb
          try go_wp2_with fail
          refine hK.out _ _ ⟨B3, B4, B5, B8, B9, Ba, Bb, Bc, Bd⟩ (fun hH => ?_)
          clear hK K
          try simp only [LY]
          refine U_two (i := 20) (j := 21) (by kernel_rfl) rfl rfl (fun K hK => ?_) (fun K hK => ?_)
          ·clear hH
           go_simp
           (with_reducible refine (r7_quotient _ _ _ _ _ Bj Bo (SzQ.fit (SzQ.sub sx ((HZ.out (k - 1) (by omega)).1))) (SzQ.fit (SzQ.sub ((HZ.out k (by omega)).1) ((HZ.out (k - 1) (by omega)).1))) (ne_between D1.out Cx.out)).mono ?_)
           rintro e Bq ⟨_, rfl, Bl, hb⟩
           obtain ⟨Ck, Ca, Ci, Cc, C4, C8, C6, rfl⟩ := Bl.shape
           replace hs := bStep hs hb
           replace B2 := B2.mono hb
           replace Blk := Blk.mono hb
           replace hx := hx.mono hb
           replace B6 := B6.mono hb
           replace B7 := B7.mono hb
           replace Bj := Bj.mono hb
           replace Bo := Bo.mono hb
           replace B3 := cellK B3 hb
           replace B4 := cellK B4 hb
           replace B5 := cellK B5 hb
           replace B8 := cellK B8 hb
           replace B9 := cellK B9 hb
           replace Ba := cellK Ba hb
           replace Bb := cellK Bb hb
           replace Bc := cellK Bc hb
           replace Bd := cellK Bd hb
           clear hb
           try go_wp2_with fail
           refine hK.out _ _ ⟨B3, B4, B5, B8, B9, Ba, Bb, Bc, Bd⟩ (fun hH => ?_)
           clear hK K
           try simp only [LY]
           clear hH
           refine U_one (i := 21) (by kernel_rfl) rfl (fun K hK => ?_)
           go_simp
           generalize hWn : (Bq.alloc (.cells #[.bool false, .slice none 0 0, .slice none 0 0] 38)) = Bi
           have hb : Below Bq.heap.size Bq Bi := by rw [← hWn]; exact (Below.refl _ _).alloc (Nat.le_refl _) _
           have B1 : Bx Bi (Bq.heap.size) 38 #[.bool false, .slice none 0 0, .slice none 0 0] := by rw [← hWn]; exact Bx.new _ _ _
           have D0 : w.heap.size ≠ Bq.heap.size := by have := B2.lt; omega
           have D5 : w.heap.size + 1 ≠ Bq.heap.size := by have := Blk.lt; omega
           have C3 : w.heap.size ≤ Bq.heap.size := hs.size
           replace hs := bStep hs hb
           replace B2 := B2.mono hb
           replace Blk := Blk.mono hb
           replace hx := hx.mono hb
           replace B6 := B6.mono hb
           replace B7 := B7.mono hb
           replace Bj := Bj.mono hb
           replace Bo := Bo.mono hb
           replace Bl := Bl.mono hb
           replace B3 := cellK B3 hb
           replace B4 := cellK B4 hb
           replace B5 := cellK B5 hb
           replace B8 := cellK B8 hb
           replace B9 := cellK B9 hb
           replace Ba := cellK Ba hb
           replace Bb := cellK Bb hb
           replace Bc := cellK Bc hb
           replace Bd := cellK Bd hb
           clear hb hWn
           refine hK.out _ _ ⟨B3, B4, B5, B8, B9, Ba, Bb, Bc, Bd⟩ (fun hH => ?_)
           clear hK K
           try simp only [LY]
           clear hH
           have Be := B1.a0
           have Bf := B1.a1
           have Bg := B1.a2
           have Dh := B1.free
           have Dc := B1.lt
           refine U_last (by kernel_rfl) rfl (by kernel_rfl) (fun K hK => ?_)
           go_simp
           refine hK.out _ _ ?_
           clear hK K
           intro Cn hW
           have hG : Gr [Bq.heap.size] Bi Cn := by rw [hW]; exact (Gr.refl _ _).set.set.set
           have Cv := hs.size
           have Cw := B1.lt
           have Bp : Below w.heap.size Bi Cn := hG.below1 hs.size (by first | omega | assumption)
           have hk : KeepD Bi Cn := hG.keep ⟨⟨_, B1.ty, by decide⟩, True.intro⟩
           have Bm : Bx Cn (Bq.heap.size) 38 #[.bool Ck, .slice Ca Ci Cc, .slice C4 C8 C6] := by rw [hW]; exact B1.set3
           replace hs := hs.trans Bp
           replace B2 := hG.bx B2 (notMem1 (by omega))
           replace Blk := hG.bx Blk (notMem1 (by omega))
           replace B1 := Bm
           clear Bm
           replace hx := hx.keep hk
           replace B6 := B6.keep hk
           replace B7 := B7.keep hk
           replace Bj := Bj.keep hk
           replace Bo := Bo.keep hk
           replace Bl := Bl.keep hk
           clear hW hG hk Bp Cv Cw
           try simp only [LY]
           clear B3 B4 B5 B8 B9 Ba Bb Bc Bd
           go_wp2_with fail
           go_meet
           exact ⟨Bq.heap.size, _, _, _, _, _, _, _, rfl, (by first | exact C3 | omega), (by omega), (by omega), B1, hs, B2, Blk, hx, B6, B7, Bl⟩
          ·clear hH
           go_simp
           generalize hWn : (Cm.alloc (.cells #[.bool false, .slice none 0 0, .slice none 0 0] 38)) = Bq
           have hb : Below Cm.heap.size Cm Bq := by rw [← hWn]; exact (Below.refl _ _).alloc (Nat.le_refl _) _
           have B1 : Bx Bq (Cm.heap.size) 38 #[.bool false, .slice none 0 0, .slice none 0 0] := by rw [← hWn]; exact Bx.new _ _ _
           have D0 : w.heap.size ≠ Cm.heap.size := by have := B2.lt; omega
           have D5 : w.heap.size + 1 ≠ Cm.heap.size := by have := Blk.lt; omega
           have C3 : w.heap.size ≤ Cm.heap.size := hs.size
           replace hs := bStep hs hb
           replace B2 := B2.mono hb
           replace Blk := Blk.mono hb
           replace hx := hx.mono hb
           replace B6 := B6.mono hb
           replace B7 := B7.mono hb
           replace Bj := Bj.mono hb
           replace Bo := Bo.mono hb
           replace B3 := cellK B3 hb
           replace B4 := cellK B4 hb
           replace B5 := cellK B5 hb
           replace B8 := cellK B8 hb
           replace B9 := cellK B9 hb
           replace Ba := cellK Ba hb
           replace Bb := cellK Bb hb
           replace Bc := cellK Bc hb
           replace Bd := cellK Bd hb
           clear hb hWn
           refine hK.out _ _ ⟨B3, B4, B5, B8, B9, Ba, Bb, Bc, Bd⟩ (fun hH => ?_)
           clear hK K
           try simp only [LY]
           clear hH
           refine U_one (i := 20) (by kernel_rfl) rfl (fun K hK => ?_)
           go_simp
           (with_reducible refine (r7_quotient _ _ _ _ _ Bj Bo (SzQ.fit (SzQ.sub sx ((HZ.out (k - 1) (by omega)).1))) (SzQ.fit (SzQ.sub ((HZ.out k (by omega)).1) ((HZ.out (k - 1) (by omega)).1))) (ne_between D1.out Cx.out)).mono ?_)
           rintro e Bi ⟨_, rfl, Bl, hb⟩
           obtain ⟨Ck, Ca, Ci, Cc, C4, C8, C6, rfl⟩ := Bl.shape
           replace hs := bStep hs hb
           replace B2 := B2.mono hb
           replace Blk := Blk.mono hb
           replace B1 := B1.mono hb
           replace hx := hx.mono hb
           replace B6 := B6.mono hb
           replace B7 := B7.mono hb
           replace Bj := Bj.mono hb
           replace Bo := Bo.mono hb
           replace B3 := cellK B3 hb
           replace B4 := cellK B4 hb
           replace B5 := cellK B5 hb
           replace B8 := cellK B8 hb
           replace B9 := cellK B9 hb
           replace Ba := cellK Ba hb
           replace Bb := cellK Bb hb
           replace Bc := cellK Bc hb
           replace Bd := cellK Bd hb
           clear hb
           try go_wp2_with fail
           refine hK.out _ _ ⟨B3, B4, B5, B8, B9, Ba, Bb, Bc, Bd⟩ (fun hH => ?_)
           clear hK K
           try simp only [LY]
           clear hH
           have Be := B1.a0
           have Bf := B1.a1
           have Bg := B1.a2
           have Dh := B1.free
           have Dc := B1.lt
           refine U_last (by kernel_rfl) rfl (by kernel_rfl) (fun K hK => ?_)
           go_simp
           refine hK.out _ _ ?_
           clear hK K
           intro Cn hW
           have hG : Gr [Cm.heap.size] Bi Cn := by rw [hW]; exact (Gr.refl _ _).set.set.set
           have Cv := hs.size
           have Cw := B1.lt
           have Bp : Below w.heap.size Bi Cn := hG.below1 hs.size (by first | omega | assumption)
           have hk : KeepD Bi Cn := hG.keep ⟨⟨_, B1.ty, by decide⟩, True.intro⟩
           have Bm : Bx Cn (Cm.heap.size) 38 #[.bool Ck, .slice Ca Ci Cc, .slice C4 C8 C6] := by rw [hW]; exact B1.set3
           replace hs := hs.trans Bp
           replace B2 := hG.bx B2 (notMem1 (by omega))
           replace Blk := hG.bx Blk (notMem1 (by omega))
           replace B1 := Bm
           clear Bm
           replace hx := hx.keep hk
           replace B6 := B6.keep hk
           replace B7 := B7.keep hk
           replace Bj := Bj.keep hk
           replace Bo := Bo.keep hk
           replace Bl := Bl.keep hk
           clear hW hG hk Bp Cv Cw
           try simp only [LY]
           clear B3 B4 B5 B8 B9 Ba Bb Bc Bd
           go_wp2_with fail
           go_meet
           exact ⟨Cm.heap.size, _, _, _, _, _, _, _, rfl, (by first | exact C3 | omega), (by omega), (by omega), B1, hs, B2, Blk, hx, B6, B7, Bl⟩
         ·clear hH
          go_simp
          generalize hWn : (Cp.alloc (.cells #[.bool false, .slice none 0 0, .slice none 0 0] 38)) = Cm
          have hb : Below Cp.heap.size Cp Cm := by rw [← hWn]; exact (Below.refl _ _).alloc (Nat.le_refl _) _
          have B1 : Bx Cm (Cp.heap.size) 38 #[.bool false, .slice none 0 0, .slice none 0 0] := by rw [← hWn]; exact Bx.new _ _ _
          have D0 : w.heap.size ≠ Cp.heap.size := by have := B2.lt; omega
          have D5 : w.heap.size + 1 ≠ Cp.heap.size := by have := Blk.lt; omega
          have C3 : w.heap.size ≤ Cp.heap.size := hs.size
          replace hs := bStep hs hb
          replace B2 := B2.mono hb
          replace Blk := Blk.mono hb
          replace hx := hx.mono hb
          replace B6 := B6.mono hb
          replace B7 := B7.mono hb
          replace Bj := Bj.mono hb
          replace B3 := cellK B3 hb
          replace B4 := cellK B4 hb
          replace B5 := cellK B5 hb
          replace B8 := cellK B8 hb
          replace B9 := cellK B9 hb
          replace Ba := cellK Ba hb
          replace Bb := cellK Bb hb
          replace Bc := cellK Bc hb
          replace Bd := cellK Bd hb
          clear hb hWn
          refine hK.out _ _ ⟨B3, B4, B5, B8, B9, Ba, Bb, Bc, Bd⟩ (fun hH => ?_)
          clear hK K
          try simp only [LY]
          clear hH
          refine U_one (i := 19) (by kernel_rfl) rfl (fun K hK => ?_)
          go_simp
          (with_reducible refine (rSub B7 B6 (SzQ.fit ((HZ.out k (by omega)).1)) (SzQ.fit ((HZ.out (k - 1) (by omega)).1))).mono ?_)
          rintro e Bq ⟨_, rfl, Bo, hb⟩
          obtain ⟨Jq, Jk, Jp, Jm, Je, Ji, Jf, rfl⟩ := Bo.shape
          replace hs := bStep hs hb
          replace B2 := B2.mono hb
          replace Blk := Blk.mono hb
          replace B1 := B1.mono hb
          replace hx := hx.mono hb
          replace B6 := B6.mono hb
          replace B7 := B7.mono hb
          replace Bj := Bj.mono hb
          replace B3 := cellK B3 hb
          replace B4 := cellK B4 hb
          replace B5 := cellK B5 hb
          replace B8 := cellK B8 hb
          replace B9 := cellK B9 hb
          replace Ba := cellK Ba hb
          replace Bb := cellK Bb hb
          replace Bc := cellK Bc hb
          replace Bd := cellK Bd hb
          clear hb
          try go_wp2_with fail
          refine hK.out _ _ ⟨B3, B4, B5, B8, B9, Ba, Bb, Bc, Bd⟩ (fun hH => ?_)
          clear hK K
          try simp only [LY]
          clear hH
          refine U_one (i := 20) (by kernel_rfl) rfl (fun K hK => ?_)
          go_simp
          (with_reducible refine (r7_quotient _ _ _ _ _ Bj Bo (SzQ.fit (SzQ.sub sx ((HZ.out (k - 1) (by omega)).1))) (SzQ.fit (SzQ.sub ((HZ.out k (by omega)).1) ((HZ.out (k - 1) (by omega)).1))) (ne_between D1.out Cx.out)).mono ?_)
          rintro e Bi ⟨_, rfl, Bl, hb⟩
          obtain ⟨Ck, Ca, Ci, Cc, C4, C8, C6, rfl⟩ := Bl.shape
          replace hs := bStep hs hb
          replace B2 := B2.mono hb
          replace Blk := Blk.mono hb
          replace B1 := B1.mono hb
          replace hx := hx.mono hb
          replace B6 := B6.mono hb
          replace B7 := B7.mono hb
          replace Bj := Bj.mono hb
          replace Bo := Bo.mono hb
          replace B3 := cellK B3 hb
          replace B4 := cellK B4 hb
          replace B5 := cellK B5 hb
          replace B8 := cellK B8 hb
          replace B9 := cellK B9 hb
          replace Ba := cellK Ba hb
          replace Bb := cellK Bb hb
          replace Bc := cellK Bc hb
          replace Bd := cellK Bd hb
          clear hb
          try go_wp2_with fail
          refine hK.out _ _ ⟨B3, B4, B5, B8, B9, Ba, Bb, Bc, Bd⟩ (fun hH => ?_)
          clear hK K
          try simp only [LY]
          clear hH
          have Be := B1.a0
          have Bf := B1.a1
          have Bg := B1.a2
          have Dh := B1.free
          have Dc := B1.lt
          refine U_last (by kernel_rfl) rfl (by kernel_rfl) (fun K hK => ?_)
          go_simp
          refine hK.out _ _ ?_
          clear hK K
          intro Cn hW
          have hG : Gr [Cp.heap.size] Bi Cn := by rw [hW]; exact (Gr.refl _ _).set.set.set
          have Cv := hs.size
          have Cw := B1.lt
          have Bp : Below w.heap.size Bi Cn := hG.below1 hs.size (by first | omega | assumption)
          have hk : KeepD Bi Cn := hG.keep ⟨⟨_, B1.ty, by decide⟩, True.intro⟩
          have Bm : Bx Cn (Cp.heap.size) 38 #[.bool Ck, .slice Ca Ci Cc, .slice C4 C8 C6] := by rw [hW]; exact B1.set3
          replace hs := hs.trans Bp
          replace B2 := hG.bx B2 (notMem1 (by omega))
          replace Blk := hG.bx Blk (notMem1 (by omega))
          replace B1 := Bm
          clear Bm
          replace hx := hx.keep hk
          replace B6 := B6.keep hk
          replace B7 := B7.keep hk
          replace Bj := Bj.keep hk
          replace Bo := Bo.keep hk
          replace Bl := Bl.keep hk
          clear hW hG hk Bp Cv Cw
          try simp only [LY]
          clear B3 B4 B5 B8 B9 Ba Bb Bc Bd
          go_wp2_with fail
          go_meet
          exact ⟨Cp.heap.size, _, _, _, _, _, _, _, rfl, (by first | exact C3 | omega), (by omega), (by omega), B1, hs, B2, Blk, hx, B6, B7, Bl⟩
        ·clear hH
         go_simp
         generalize hWn : (Bh.alloc (.cells #[.bool false, .slice none 0 0, .slice none 0 0] 38)) = Cp
         have hb : Below Bh.heap.size Bh Cp := by rw [← hWn]; exact (Below.refl _ _).alloc (Nat.le_refl _) _
         have B1 : Bx Cp (Bh.heap.size) 38 #[.bool false, .slice none 0 0, .slice none 0 0] := by rw [← hWn]; exact Bx.new _ _ _
         have D0 : w.heap.size ≠ Bh.heap.size := by have := B2.lt; omega
         have D5 : w.heap.size + 1 ≠ Bh.heap.size := by have := Blk.lt; omega
         have C3 : w.heap.size ≤ Bh.heap.size := hs.size
         replace hs := bStep hs hb
         replace B2 := B2.mono hb
         replace Blk := Blk.mono hb
         replace hx := hx.mono hb
         replace B6 := B6.mono hb
         replace B7 := B7.mono hb
         replace B3 := cellK B3 hb
         replace B4 := cellK B4 hb
         replace B5 := cellK B5 hb
         replace B8 := cellK B8 hb
         replace B9 := cellK B9 hb
         replace Ba := cellK Ba hb
         replace Bb := cellK Bb hb
         replace Bc := cellK Bc hb
         replace Bd := cellK Bd hb
         clear hb hWn
         refine hK.out _ _ ⟨B3, B4, B5, B8, B9, Ba, Bb, Bc, Bd⟩ (fun hH => ?_)
         clear hK K
         try simp only [LY]
         clear hH
         refine U_one (i := 7) (by kernel_rfl) rfl (fun K hK => ?_)
         go_simp
         (with_reducible refine (rSub hx B6 (SzQ.fit sx) (SzQ.fit ((HZ.out (k - 1) (by omega)).1))).mono ?_)
         rintro e Cm ⟨_, rfl, Bj, hb⟩
         obtain ⟨sh14, ah14, nh14, ch14, Ah14, Nh14, Ch14, rfl⟩ := Bj.shape
         replace hs := bStep hs hb
         replace B2 := B2.mono hb
         replace Blk := Blk.mono hb
         replace B1 := B1.mono hb
         replace hx := hx.mono hb
         replace B6 := B6.mono hb
         replace B7 := B7.mono hb
         replace B3 := cellK B3 hb
         replace B4 := cellK B4 hb
         replace B5 := cellK B5 hb
         replace B8 := cellK B8 hb
         replace B9 := cellK B9 hb
         replace Ba := cellK Ba hb
         replace Bb := cellK Bb hb
         replace Bc := cellK Bc hb
         replace Bd := cellK Bd hb
         clear hb
         try go_wp2_with fail
         refine hK.out _ _ ⟨B3, B4, B5, B8, B9, Ba, Bb, Bc, Bd⟩ (fun hH => ?_)
         clear hK K
         try simp only [LY]
         clear hH
         refine U_one (i := 19) (by kernel_rfl) rfl (fun K hK => ?_)
         go_simp
         (with_reducible refine (rSub B7 B6 (SzQ.fit ((HZ.out k (by omega)).1)) (SzQ.fit ((HZ.out (k - 1) (by omega)).1))).mono ?_)
         rintro e Bq ⟨_, rfl, Bo, hb⟩
         obtain ⟨Jq, Jk, Jp, Jm, Je, Ji, Jf, rfl⟩ := Bo.shape
         replace hs := bStep hs hb
         replace B2 := B2.mono hb
         replace Blk := Blk.mono hb
         replace B1 := B1.mono hb
         replace hx := hx.mono hb
         replace B6 := B6.mono hb
         replace B7 := B7.mono hb
         replace Bj := Bj.mono hb
         replace B3 := cellK B3 hb
         replace B4 := cellK B4 hb
         replace B5 := cellK B5 hb
         replace B8 := cellK B8 hb
         replace B9 := cellK B9 hb
         replace Ba := cellK Ba hb
         replace Bb := cellK Bb hb
         replace Bc := cellK Bc hb
         replace Bd := cellK Bd hb
         clear hb
         try go_wp2_with fail
         refine hK.out _ _ ⟨B3, B4, B5, B8, B9, Ba, Bb, Bc, Bd⟩ (fun hH => ?_)
         clear hK K
         try simp only [LY]
         clear hH
         refine U_one (i := 20) (by kernel_rfl) rfl (fun K hK => ?_)
         go_simp
         (with_reducible refine (r7_quotient _ _ _ _ _ Bj Bo (SzQ.fit (SzQ.sub sx ((HZ.out (k - 1) (by omega)).1))) (SzQ.fit (SzQ.sub ((HZ.out k (by omega)).1) ((HZ.out (k - 1) (by omega)).1))) (ne_between D1.out Cx.out)).mono ?_)
         rintro e Bi ⟨_, rfl, Bl, hb⟩
         obtain ⟨Ck, Ca, Ci, Cc, C4, C8, C6, rfl⟩ := Bl.shape
         replace hs := bStep hs hb
         replace B2 := B2.mono hb
         replace Blk := Blk.mono hb
         replace B1 := B1.mono hb
         replace hx := hx.mono hb
         replace B6 := B6.mono hb
         replace B7 := B7.mono hb
         replace Bj := Bj.mono hb
         replace Bo := Bo.mono hb
         replace B3 := cellK B3 hb
         replace B4 := cellK B4 hb
         replace B5 := cellK B5 hb
         replace B8 := cellK B8 hb
         replace B9 := cellK B9 hb
         replace Ba := cellK Ba hb
         replace Bb := cellK Bb hb
         replace Bc := cellK Bc hb
         replace Bd := cellK Bd hb
         clear hb
         try go_wp2_with fail
         refine hK.out _ _ ⟨B3, B4, B5, B8, B9, Ba, Bb, Bc, Bd⟩ (fun hH => ?_)
         clear hK K
         try simp only [LY]
         clear hH
         have Be := B1.a0
         have Bf := B1.a1
         have Bg := B1.a2
         have Dh := B1.free
         have Dc := B1.lt
         refine U_last (by kernel_rfl) rfl (by kernel_rfl) (fun K hK => ?_)
         go_simp
         refine hK.out _ _ ?_
         clear hK K
         intro Cn hW
         have hG : Gr [Bh.heap.size] Bi Cn := by rw [hW]; exact (Gr.refl _ _).set.set.set
         have Cv := hs.size
         have Cw := B1.lt
         have Bp : Below w.heap.size Bi Cn := hG.below1 hs.size (by first | omega | assumption)
         have hk : KeepD Bi Cn := hG.keep ⟨⟨_, B1.ty, by decide⟩, True.intro⟩
         have Bm : Bx Cn (Bh.heap.size) 38 #[.bool Ck, .slice Ca Ci Cc, .slice C4 C8 C6] := by rw [hW]; exact B1.set3
         replace hs := hs.trans Bp
         replace B2 := hG.bx B2 (notMem1 (by omega))
         replace Blk := hG.bx Blk (notMem1 (by omega))
         replace B1 := Bm
         clear Bm
         replace hx := hx.keep hk
         replace B6 := B6.keep hk
         replace B7 := B7.keep hk
         replace Bj := Bj.keep hk
         replace Bo := Bo.keep hk
         replace Bl := Bl.keep hk
         clear hW hG hk Bp Cv Cw
         try simp only [LY]
         clear B3 B4 B5 B8 B9 Ba Bb Bc Bd
         go_wp2_with fail
         go_meet
         exact ⟨Bh.heap.size, _, _, _, _, _, _, _, rfl, (by first | exact C3 | omega), (by omega), (by omega), B1, hs, B2, Blk, hx, B6, B7, Bl⟩
       case rest =>
        clear hs B8 B9 Ba Bb Bc Bd B2 Blk hx B6 B7
        obtain ⟨Bn, Ck, Ca, Ci, Cc, C4, C8, C6, rfl, Jy, Jr, Jt, B1, hs, B2, Blk, hx, B6, B7, Bl⟩ := hcut
        go_upto_region 11 with fail
        obtain ⟨_, _, _, _, _, _, _, J6, J0, Ja, J3, Eq, Ex, Et, -, -, -, Br, Bs, Bt, -, C1, le18⟩ := rowSR_at (HL.out.mono (C2.kept RC.kept) hs) (show (k - 1) < T.length by omega)
        obtain ⟨_, _, _, _, _, _, _, J7, J1, Jb, J4, Er, Ey, Eu, -, -, -, Bu, Bv, Bw, -, Ch, le19⟩ := rowSR_at (HL.out.mono (C2.kept RC.kept) hs) (show k < T.length by omega)
        refine U_region (S := fun w' => w'.cell? ⟨Bn, 0, none⟩ = some (.bool Ck) ∧ w'.cell? ⟨Bn, 1, none⟩ = some (.slice Ca Ci Cc) ∧ w'.cell? ⟨Bn, 2, none⟩ = some (.slice C4 C8 C6) ∧ w'.cell? ⟨rb, ro + (k - 1) * 6 + 3, none⟩ = some (.bool J6) ∧ w'.cell? ⟨rb, ro + (k - 1) * 6 + 4, none⟩ = some (.slice J0 Ja J3) ∧ w'.cell? ⟨rb, ro + (k - 1) * 6 + 5, none⟩ = some (.slice Eq Ex Et) ∧ w'.cell? ⟨rb, ro + k * 6 + 3, none⟩ = some (.bool J7) ∧ w'.cell? ⟨rb, ro + k * 6 + 4, none⟩ = some (.slice J1 Jb J4) ∧ w'.cell? ⟨rb, ro + k * 6 + 5, none⟩ = some (.slice Er Ey Eu)) (by kernel_rfl) 22 ?_
        refine AnyU.abs ?_
        intro Bh hW
        have hb : Below wc.heap.size wc Bh := by rw [hW]; exact bDrew _
        replace hs := bStep hs hb
        replace B2 := B2.mono hb
        replace Blk := Blk.mono hb
        replace B1 := B1.mono hb
        replace hx := hx.mono hb
        replace B6 := B6.mono hb
        replace B7 := B7.mono hb
        replace Bl := Bl.mono hb
        replace C1 := C1.mono hb
        replace Ch := Ch.mono hb
        replace Br := cellK Br hb
        replace Bs := cellK Bs hb
        replace Bt := cellK Bt hb
        replace Bu := cellK Bu hb
        replace Bv := cellK Bv hb
        replace Bw := cellK Bw hb
        clear hb hW
        have Be := B1.a0
        have Bf := B1.a1
        have Bg := B1.a2
        have hH := (show Bh.cell? ⟨Bn, 0, none⟩ = some (.bool Ck) ∧ Bh.cell? ⟨Bn, 1, none⟩ = some (.slice Ca Ci Cc) ∧ Bh.cell? ⟨Bn, 2, none⟩ = some (.slice C4 C8 C6) ∧ Bh.cell? ⟨rb, ro + (k - 1) * 6 + 3, none⟩ = some (.bool J6) ∧ Bh.cell? ⟨rb, ro + (k - 1) * 6 + 4, none⟩ = some (.slice J0 Ja J3) ∧ Bh.cell? ⟨rb, ro + (k - 1) * 6 + 5, none⟩ = some (.slice Eq Ex Et) ∧ Bh.cell? ⟨rb, ro + k * 6 + 3, none⟩ = some (.bool J7) ∧ Bh.cell? ⟨rb, ro + k * 6 + 4, none⟩ = some (.slice J1 Jb J4) ∧ Bh.cell? ⟨rb, ro + k * 6 + 5, none⟩ = some (.slice Er Ey Eu) from ⟨Be, Bf, Bg, Br, Bs, Bt, Bu, Bv, Bw⟩)
        refine U_tt 0 ?_ ?_ hH ?_
        rotate_left
        ·(intro w B0; (try dsimp only at B0); go_simp; try with_reducible rfl)
        try simp only [LY]
        refine U_tt 1 ?_ ?_ hH ?_
        rotate_left
        ·(intro w B0; (try dsimp only at B0); go_simp; try with_reducible rfl)
        try simp only [LY]
        refine U_tt 2 ?_ ?_ hH ?_
        rotate_left
        ·(intro w B0; (try dsimp only at B0); go_simp; try with_reducible rfl)
        try simp only [LY]
        refine U_tt 3 ?_ ?_ hH ?_
        rotate_left
        ·(intro w B0; (try dsimp only at B0); go_simp; try with_reducible rfl)
        try simp only [LY]
        refine U_tt 4 ?_ ?_ hH ?_
        rotate_left
        ·(intro w B0; (try dsimp only at B0); go_simp; try with_reducible rfl)
        try simp only [LY]
        refine U_tt 5 ?_ ?_ hH ?_
        rotate_left
        ·(intro w B0; (try dsimp only at B0); go_simp; try with_reducible rfl)
        try simp only [LY]
        refine U_tt 6 ?_ ?_ hH ?_
        rotate_left
        ·(intro w B0; (try dsimp only at B0); go_simp; try with_reducible rfl)
        try simp only [LY]
        refine U_tt 7 ?_ ?_ hH ?_
        rotate_left
        ·(intro w B0; (try dsimp only at B0); go_simp; try with_reducible rfl)
        try simp only [LY]
        refine U_tt 8 ?_ ?_ hH ?_
        rotate_left
        ·(intro w B0; (try dsimp only at B0); go_simp; try with_reducible rfl)
        try simp only [LY]
        refine U_tt 9 ?_ ?_ hH ?_
        rotate_left
        ·(intro w B0; (try dsimp only at B0); go_simp; try with_reducible rfl)
        try simp only [LY]
        refine U_tt 10 ?_ ?_ hH ?_
        rotate_left
        ·(intro w B0; (try dsimp only at B0); go_simp; try with_reducible rfl)
        try simp only [LY]
        refine U_tt 11 ?_ ?_ hH ?_
        rotate_left
        ·(intro w B0; (try dsimp only at B0); go_simp; try with_reducible rfl)
        try simp only [LY]
        refine U_tt 12 ?_ ?_ hH ?_
        rotate_left
        ·(intro w B0; (try dsimp only at B0); go_simp; try with_reducible rfl)
        try simp only [LY]
        refine U_tt 13 ?_ ?_ hH ?_
        rotate_left
        ·(intro w B0; (try dsimp only at B0); go_simp; try with_reducible rfl)
        try simp only [LY]
        refine U_tt 14 ?_ ?_ hH ?_
        rotate_left
        ·(intro w B0; (try dsimp only at B0); go_simp; try with_reducible rfl)
        try simp only [LY]
        refine U_tt 15 ?_ ?_ hH ?_
        rotate_left
        ·(intro w B0; (try dsimp only at B0); go_simp; try with_reducible rfl)
        try simp only [LY]
        refine U_tt 16 ?_ ?_ hH ?_
        rotate_left
        ·(intro w B0; (try dsimp only at B0); go_simp; try with_reducible rfl)
        try simp only [LY]
        refine U_tt 17 ?_ ?_ hH ?_
        rotate_left
        ·(intro w B0; (try dsimp only at B0); go_simp; try with_reducible rfl)
        try simp only [LY]
        clear hH
        refine U_one (i := 18) (by kernel_rfl) rfl (fun K hK => ?_)
        go_simp
        (with_reducible refine (rSub Ch C1 (SzQ.fit ((HZ.out k (by omega)).2)) (SzQ.fit ((HZ.out (k - 1) (by omega)).2))).mono ?_)
        rintro e Cp ⟨_, rfl, D8, hb⟩
        obtain ⟨sh20, ah20, nh20, ch20, Ah20, Nh20, Ch20, rfl⟩ := D8.shape
        replace hs := bStep hs hb
        replace B2 := B2.mono hb
        replace Blk := Blk.mono hb
        replace B1 := B1.mono hb
        replace hx := hx.mono hb
        replace B6 := B6.mono hb
        replace B7 := B7.mono hb
        replace Bl := Bl.mono hb
        replace C1 := C1.mono hb
        replace Ch := Ch.mono hb
        replace Be := cellK Be hb
        replace Bf := cellK Bf hb
        replace Bg := cellK Bg hb
        replace Br := cellK Br hb
        replace Bs := cellK Bs hb
        replace Bt := cellK Bt hb
        replace Bu := cellK Bu hb
        replace Bv := cellK Bv hb
        replace Bw := cellK Bw hb
        clear hb
        try go_wp2_with fail
        refine hK.out _ _ ⟨Be, Bf, Bg, Br, Bs, Bt, Bu, Bv, Bw⟩ (fun hH => ?_)
        clear hK K
        try simp only [LY]
        clear hH
        refine U_one (i := 19) (by kernel_rfl) rfl (fun K hK => ?_)
        go_simp
        (with_reducible refine (rMul Bl D8 (SzQ.fit (SzQ.div (SzQ.sub sx ((HZ.out (k - 1) (by omega)).1)) (SzQ.sub ((HZ.out k (by omega)).1) ((HZ.out (k - 1) (by omega)).1)) (ne_between D1.out Cx.out))) (SzQ.fit (SzQ.sub ((HZ.out k (by omega)).2) ((HZ.out (k - 1) (by omega)).2)))).mono ?_)
        rintro e Cm ⟨_, rfl, Dl, hb⟩
        obtain ⟨sh21, ah21, nh21, ch21, Ah21, Nh21, Ch21, rfl⟩ := Dl.shape
        replace hs := bStep hs hb
        replace B2 := B2.mono hb
        replace Blk := Blk.mono hb
        replace B1 := B1.mono hb
        replace hx := hx.mono hb
        replace B6 := B6.mono hb
        replace B7 := B7.mono hb
        replace Bl := Bl.mono hb
        replace C1 := C1.mono hb
        replace Ch := Ch.mono hb
        replace D8 := D8.mono hb
        replace Be := cellK Be hb
        replace Bf := cellK Bf hb
        replace Bg := cellK Bg hb
        replace Br := cellK Br hb
        replace Bs := cellK Bs hb
        replace Bt := cellK Bt hb
        replace Bu := cellK Bu hb
        replace Bv := cellK Bv hb
        replace Bw := cellK Bw hb
        clear hb
        try go_wp2_with fail
        refine hK.out _ _ ⟨Be, Bf, Bg, Br, Bs, Bt, Bu, Bv, Bw⟩ (fun hH => ?_)
        clear hK K
        try simp only [LY]
        clear hH
        refine U_one (i := 20) (by kernel_rfl) rfl (fun K hK => ?_)
        go_simp
        (with_reducible refine (rAdd C1 Dl (SzQ.fit ((HZ.out (k - 1) (by omega)).2)) (SzQ.fit (SzQ.mul (SzQ.div (SzQ.sub sx ((HZ.out (k - 1) (by omega)).1)) (SzQ.sub ((HZ.out k (by omega)).1) ((HZ.out (k - 1) (by omega)).1)) (ne_between D1.out Cx.out)) (SzQ.sub ((HZ.out k (by omega)).2) ((HZ.out (k - 1) (by omega)).2))))).mono ?_)
        rintro e Bq ⟨_, rfl, J8, hb⟩
        obtain ⟨Ee, E1, Ec, E5, Dp, Dx, Dq, rfl⟩ := J8.shape
        replace hs := bStep hs hb
        replace B2 := B2.mono hb
        replace Blk := Blk.mono hb
        replace B1 := B1.mono hb
        replace hx := hx.mono hb
        replace B6 := B6.mono hb
        replace B7 := B7.mono hb
        replace Bl := Bl.mono hb
        replace C1 := C1.mono hb
        replace Ch := Ch.mono hb
        replace D8 := D8.mono hb
        replace Dl := Dl.mono hb
        replace Be := cellK Be hb
        replace Bf := cellK Bf hb
        replace Bg := cellK Bg hb
        replace Br := cellK Br hb
        replace Bs := cellK Bs hb
        replace Bt := cellK Bt hb
        replace Bu := cellK Bu hb
        replace Bv := cellK Bv hb
        replace Bw := cellK Bw hb
        clear hb
        try go_wp2_with fail
        refine hK.out _ _ ⟨Be, Bf, Bg, Br, Bs, Bt, Bu, Bv, Bw⟩ (fun hH => ?_)
        clear hK K
        try simp only [LY]
        clear hH
        have Ce := Blk.a0
        have Cf := Blk.a1
        have Cg := Blk.a2
        have fk := Blk.free
        have Lk := Blk.lt
        refine U_one (i := 21) (by kernel_rfl) rfl (fun K hK => ?_)
        go_simp
        generalize hW_ : (((Bq.setCell ⟨w.heap.size + 1, 0, none⟩ (.bool Ee)).setCell ⟨w.heap.size + 1, 1, none⟩ (.slice E1 Ec E5)).setCell ⟨w.heap.size + 1, 2, none⟩ (.slice Dp Dx Dq)) = Bi
        have hW := hW_.symm
        clear hW_
        have hG : Gr [w.heap.size + 1] Bq Bi := by rw [hW]; exact (Gr.refl _ _).set.set.set
        have Cv := hs.size
        have lk := Blk.lt
        have Bp : Below w.heap.size Bq Bi := hG.below1 hs.size (by first | omega | assumption)
        have hk : KeepD Bq Bi := hG.keep ⟨⟨_, Blk.ty, by decide⟩, True.intro⟩
        have Cu : Bx Bi (w.heap.size + 1) 38 #[.bool Ee, .slice E1 Ec E5, .slice Dp Dx Dq] := by rw [hW]; exact Blk.set3
        replace hs := hs.trans Bp
        replace B2 := hG.bx B2 (notMem1 (by omega))
        replace B1 := hG.bx B1 (notMem1 (by omega))
        replace Blk := Cu
        clear Cu
        replace hx := hx.keep hk
        replace B6 := B6.keep hk
        replace B7 := B7.keep hk
        replace Bl := Bl.keep hk
        replace C1 := C1.keep hk
        replace Ch := Ch.keep hk
        replace D8 := D8.keep hk
        replace Dl := Dl.keep hk
        replace J8 := J8.keep hk
        replace Be := hG.cell Be (notMem1 (by dsimp only; omega))
        replace Bf := hG.cell Bf (notMem1 (by dsimp only; omega))
        replace Bg := hG.cell Bg (notMem1 (by dsimp only; omega))
        replace Br := hG.cell Br (notMem1 (by dsimp only; omega))
        replace Bs := hG.cell Bs (notMem1 (by dsimp only; omega))
        replace Bt := hG.cell Bt (notMem1 (by dsimp only; omega))
        replace Bu := hG.cell Bu (notMem1 (by dsimp only; omega))
        replace Bv := hG.cell Bv (notMem1 (by dsimp only; omega))
        replace Bw := hG.cell Bw (notMem1 (by dsimp only; omega))
        clear hW hG hk Bp Cv lk
        refine hK.out _ _ ⟨Be, Bf, Bg, Br, Bs, Bt, Bu, Bv, Bw⟩ (fun hH => ?_)
        clear hK K
        try simp only [LY]
        clear hH
        refine U_last (by kernel_rfl) rfl (by kernel_rfl) (fun K hK => ?_)
        go_simp
        refine hK.out _ _ ?_
        clear hK K
        intro wl hW
        rw [hW]
        clear hW wl
        try simp only [LY]
        clear Be Bf Bg Br Bs Bt Bu Bv Bw
        iterate 6 go_step
        have Ce := Blk.a0
        have Cf := Blk.a1
        have Cg := Blk.a2
        exact bodyPost_ret (v := .tuple #[.agg #[.bool Ee, .slice E1 Ec E5, .slice Dp Dx Dq], .int .i64 0]) (by simp [results, Tryz.results27, go_sem, Ce, Cf, Cg]) rfl ⟨_, _, rfl, (J8.of_eq (itp_ref T x k (ne_between D1.out Cx.out))).of_eq (Prod.mk.inj ((valQ_itp (by omega) (invT_lt Ev.out HE.out (show k - 1 < T.length by omega) (Rat.le_of_lt D1.out)) Cx.out (by omega)).symm.trans Dk.out)).1, congrArg (Value.int .i64) (Prod.mk.inj ((valQ_itp (by omega) (invT_lt Ev.out HE.out (show k - 1 < T.length by omega) (Rat.le_of_lt D1.out)) Cx.out (by omega)).symm.trans Dk.out)).2, hs⟩
      ·have Eo : ¬ (Ed < 0) := by have h := sq_lt x (taQ T k); rw [← D6.out] at h; exact fun h1 => q12 (h.1 h1)
       have Cx := Lib.hid q12
       clear q12
       have q12d : decide (Ed < 0) = false := decide_eq_false Eo
       go_wp2
       go_roundw
       case rel => exact ⟨k + 1, by omega, by go_num, hs, B2, Blk, hx, invT_step HE.out D9.out (fun h => Cx.out h.2.2)⟩
       all_goals first | (simp [intOf]; done) | (simp [intOf]; omega)
     ·have q9_ : ¬ (Jc < 0) := by have h := sq_lt (taQ T (k - 1)) x; rw [← D7.out] at h; exact fun h1 => q9 (h.1 h1)
      have D1 := Lib.hid q9
      clear q9
      have q9d : decide (Jc < 0) = false := decide_eq_false q9_
      refine U_region (S := fun w' => w'.cell? ⟨w.heap.size, 0, none⟩ = some (.bool Cl) ∧ w'.cell? ⟨w.heap.size, 1, none⟩ = some (.slice Cb Cj Cd) ∧ w'.cell? ⟨w.heap.size, 2, none⟩ = some (.slice C5 C9 C7) ∧ w'.cell? ⟨rb, ro + (k - 1) * 6, none⟩ = some (.bool E8) ∧ w'.cell? ⟨rb, ro + (k - 1) * 6 + 1, none⟩ = some (.slice E0 Eb E4) ∧ w'.cell? ⟨rb, ro + (k - 1) * 6 + 2, none⟩ = some (.slice Do Dw Dt)) (by kernel_rfl) 23 ?_
      refine AnyU.abs ?_
      intro Bk hW
      have hb : Below w24.heap.size w24 Bk := by rw [hW]; exact bDrew _
      replace hs := bStep hs hb
      replace B2 := B2.mono hb
      replace Blk := Blk.mono hb
      replace hx := hx.mono hb
      replace Cq := Cq.mono hb
      replace By := cellK By hb
      replace Bz := cellK Bz hb
      replace C0 := cellK C0 hb
      clear hb hW
      have B3 := B2.a0
      have B4 := B2.a1
      have B5 := B2.a2
      have hH := (show Bk.cell? ⟨w.heap.size, 0, none⟩ = some (.bool Cl) ∧ Bk.cell? ⟨w.heap.size, 1, none⟩ = some (.slice Cb Cj Cd) ∧ Bk.cell? ⟨w.heap.size, 2, none⟩ = some (.slice C5 C9 C7) ∧ Bk.cell? ⟨rb, ro + (k - 1) * 6, none⟩ = some (.bool E8) ∧ Bk.cell? ⟨rb, ro + (k - 1) * 6 + 1, none⟩ = some (.slice E0 Eb E4) ∧ Bk.cell? ⟨rb, ro + (k - 1) * 6 + 2, none⟩ = some (.slice Do Dw Dt) from ⟨B3, B4, B5, By, Bz, C0⟩)
      refine U_tk 0 33 ?_ ?_ hH ?_
      rotate_left
      ·(intro w B0; (try dsimp only at B0); go_simp; try with_reducible rfl)
      simp only [LY]
      refine U_tk 1 34 ?_ ?_ hH ?_
      rotate_left
      ·(intro w B0; (try dsimp only at B0); go_simp; try with_reducible rfl)
      simp only [LY]
      refine U_tk 2 35 ?_ ?_ hH ?_
      rotate_left
      ·(intro w B0; (try dsimp only at B0); go_simp; try with_reducible rfl)
      simp only [LY]
      refine U_tk 3 36 ?_ ?_ hH ?_
      rotate_left
      ·(intro w B0; (try dsimp only at B0); go_simp; try with_reducible rfl)
      simp only [LY]
      refine U_tk 4 37 ?_ ?_ hH ?_
      rotate_left
      ·(intro w B0; (try dsimp only at B0); go_simp; try with_reducible rfl)
      simp only [LY]
      refine U_tk 5 38 ?_ ?_ hH ?_
      rotate_left
      ·(intro w B0; (try dsimp only at B0); go_simp; try with_reducible rfl)
      simp only [LY]
      refine U_tk 6 39 ?_ ?_ hH ?_
      rotate_left
      ·(intro w B0; (try dsimp only at B0); go_simp; try with_reducible rfl)
      simp only [LY]
      refine U_tk 7 40 ?_ ?_ hH ?_
      rotate_left
      ·(intro w B0; (try dsimp only at B0); go_simp; try with_reducible rfl)
      simp only [LY]
      refine U_tk 8 41 ?_ ?_ hH ?_
      rotate_left
      ·(intro w B0; (try dsimp only at B0); go_simp; try with_reducible rfl)
      simp only [LY]
      refine U_tk 9 42 ?_ ?_ hH ?_
      rotate_left
      ·(intro w B0; (try dsimp only at B0); go_simp; try with_reducible rfl)
      simp only [LY]
      clear hH
      refine U_one (i := 10) (by kernel_rfl) rfl (fun K hK => ?_)
      go_simp
      (with_reducible refine (rCmp Cq hx (SzQ.fit ((HZ.out (k - 1) (by omega)).1)) (SzQ.fit sx)).mono ?_)
      rintro e w26 ⟨rfl, hb⟩
      replace hs := bStep hs hb
      replace B2 := B2.mono hb
      replace Blk := Blk.mono hb
      replace hx := hx.mono hb
      replace Cq := Cq.mono hb
      replace B3 := cellK B3 hb
      replace B4 := cellK B4 hb
      replace B5 := cellK B5 hb
      replace By := cellK By hb
      replace Bz := cellK Bz hb
      replace C0 := cellK C0 hb
      clear hb
      rw [← D7.out]
      try go_wp2_with fail
      refine hK.out _ _ ⟨B3, B4, B5, By, Bz, C0⟩ (fun hH => ?_)
      clear hK K
      try simp only [LY]
      refine U_tk 11 44 ?_ ?_ hH ?_
      rotate_left
      ·(intro w B0; (try dsimp only at B0); go_simp; try with_reducible rfl)
      simp only [LY]
      refine U_tk 12 45 ?_ ?_ hH ?_
      rotate_left
      ·(intro w B0; (try dsimp only at B0); go_simp; try with_reducible rfl)
      simp only [LY]
      refine U_tk 13 46 ?_ ?_ hH ?_
      rotate_left
      ·(intro w B0; (try dsimp only at B0); go_simp; try with_reducible rfl)
      simp only [LY]
      refine U_tu 14 47 hH ?_
      simp only [LY]
      refine U_tu 15 48 hH ?_
      simp only [LY]
      refine U_tu 16 49 hH ?_
      simp only [LY]
      refine U_tu 17 50 hH ?_
      simp only [LY]
      refine U_tu 18 51 hH ?_
      simp only [LY]
      refine U_tu 19 52 hH ?_
      simp only [LY]
      clear hH
      refine U_one (i := 20) (by kernel_rfl) rfl (fun K hK => ?_)
      go_simp
      refine hK.out _ _ ⟨B3, B4, B5, By, Bz, C0⟩ (fun hH => ?_)
      clear hK K
      try simp only [LY]
      refine U_tu 21 54 hH ?_
      simp only [LY]
      refine U_tk 22 55 ?_ ?_ hH ?_
      rotate_left
      ·(intro w B0; (try dsimp only at B0); go_simp; try with_reducible rfl)
      simp only [LY]
      clear hH
      refine U_endN (by kernel_rfl) ?_
      clear B3 B4 B5 By Bz C0
      go_wp2
      go_roundw
      case rel => exact ⟨k + 1, by omega, by go_num, hs, B2, Blk, hx, invT_step HE.out D9.out (fun h => D1.out h.2.1)⟩
      all_goals first | (simp [intOf]; done) | (simp [intOf]; omega)
    ·have q5d : ((0 : Int) < (k : Int)) = False := eq_false (by omega)
     refine U_region (S := fun w' => True) (by kernel_rfl) 23 ?_
     refine AnyU.abs ?_
     intro Bk hW
     have hb : Below w24.heap.size w24 Bk := by rw [hW]; exact bDrew _
     replace hs := bStep hs hb
     replace B2 := B2.mono hb
     replace Blk := Blk.mono hb
     replace hx := hx.mono hb
     clear hb hW
     have hH := (show True from True.intro)
     refine U_tk 0 33 ?_ ?_ hH ?_
     rotate_left
     ·(intro w B0; (try dsimp only at B0); go_simp; try with_reducible rfl)
     simp only [LY]
     refine U_tk 1 34 ?_ ?_ hH ?_
     rotate_left
     ·(intro w B0; (try dsimp only at B0); go_simp; try with_reducible rfl)
     simp only [LY]
     refine U_tk 2 35 ?_ ?_ hH ?_
     rotate_left
     ·(intro w B0; (try dsimp only at B0); go_simp; try with_reducible rfl)
     simp only [LY]
     refine U_tu 3 36 hH ?_
     simp only [LY]
     refine U_tu 4 37 hH ?_
     simp only [LY]
     refine U_tu 5 38 hH ?_
     simp only [LY]
     refine U_tu 6 39 hH ?_
     simp only [LY]
     refine U_tu 7 40 hH ?_
     simp only [LY]
     refine U_tu 8 41 hH ?_
     simp only [LY]
     refine U_tu 9 42 hH ?_
     simp only [LY]
     clear hH
     refine U_one (i := 10) (by kernel_rfl) rfl (fun K hK => ?_)
     go_simp
     refine hK.out _ _ True.intro (fun hH => ?_)
     clear hK K
     try simp only [LY]
     refine U_tu 11 44 hH ?_
     simp only [LY]
     refine U_tk 12 45 ?_ ?_ hH ?_
     rotate_left
     ·(intro w B0; (try dsimp only at B0); go_simp; try with_reducible rfl)
     simp only [LY]
     refine U_tk 13 46 ?_ ?_ hH ?_
     rotate_left
     ·(intro w B0; (try dsimp only at B0); go_simp; try with_reducible rfl)
     simp only [LY]
     refine U_tu 14 47 hH ?_
     simp only [LY]
     refine U_tu 15 48 hH ?_
     simp only [LY]
     refine U_tu 16 49 hH ?_
     simp only [LY]
     refine U_tu 17 50 hH ?_
     simp only [LY]
     refine U_tu 18 51 hH ?_
     simp only [LY]
     refine U_tu 19 52 hH ?_
     simp only [LY]
     clear hH
     refine U_one (i := 20) (by kernel_rfl) rfl (fun K hK => ?_)
     go_simp
     refine hK.out _ _ True.intro (fun hH => ?_)
     clear hK K
     try simp only [LY]
     refine U_tu 21 54 hH ?_
     simp only [LY]
     refine U_tk 22 55 ?_ ?_ hH ?_
     rotate_left
     ·(intro w B0; (try dsimp only at B0); go_simp; try with_reducible rfl)
     simp only [LY]
     clear hH
     refine U_endN (by kernel_rfl) ?_
     go_wp2
     go_roundw
     case rel => exact ⟨k + 1, by omega, by go_num, hs, B2, Blk, hx, invT_step HE.out D9.out (fun h => absurd h.1 (by omega))⟩
     all_goals first | (simp [intOf]; done) | (simp [intOf]; omega)
  ·have q1d : ((k : Int) < (T.length : Int)) = False := eq_false (by omega)
   go_wp2_with fail
   with_reducible refine (r7_zero _).mono ?_
   rintro e Co ⟨_, rfl, h2, hb⟩
   obtain ⟨Dj, De, Di, Df, Da, Dd, Db, rfl⟩ := h2.shape
   replace hs := bStep hs hb
   replace B2 := B2.mono hb
   replace Blk := Blk.mono hb
   replace hx := hx.mono hb
   clear hb
   obtain rfl : k = T.length := by omega
   have Ce := Blk.a0
   have Cf := Blk.a1
   have Cg := Blk.a2
   have fk := Blk.free
   have Lk := Blk.lt
   go_wp2
   clear Ce Cf Cg fk Lk
   refine bodyPost.abs ?_
   intro w24 hW
   have hG : Gr [w.heap.size + 1] Co w24 := by rw [hW]; exact (Gr.refl _ _).set.set.set
   have Cv := hs.size
   have lk := Blk.lt
   have Bp : Below w.heap.size Co w24 := hG.below1 hs.size (by first | omega | assumption)
   have hk : KeepD Co w24 := hG.keep ⟨⟨_, Blk.ty, by decide⟩, True.intro⟩
   have Cu : Bx w24 (w.heap.size + 1) 38 #[.bool Dj, .slice De Di Df, .slice Da Dd Db] := by rw [hW]; exact Blk.set3
   replace hs := hs.trans Bp
   replace B2 := hG.bx B2 (notMem1 (by omega))
   replace Blk := Cu
   clear Cu
   replace hx := hx.keep hk
   replace h2 := h2.keep hk
   clear hW hG hk Bp Cv lk
   have Ce := Blk.a0
   have Cf := Blk.a1
   have Cg := Blk.a2
   exact bodyPost_ret (v := .tuple #[.agg #[.bool Dj, .slice De Di Df, .slice Da Dd Db], .int .i64 5]) (by simp [results, Tryz.results27, go_sem, Ce, Cf, Cg]) rfl ⟨_, _, rfl, h2.of_eq (Prod.mk.inj ((valQ_end HE.out (by omega)).symm.trans Dk.out)).1, congrArg (Value.int .i64) (Prod.mk.inj ((valQ_end HE.out (by omega)).symm.trans Dk.out)).2, hs⟩
theorem r7_Value_bad (v : Value) (T : List Stp) (vx : Value) (x : Rat) (c : Int) (w : World) (hl : Rows 6 155 (C2 RC) w v T) (hz : TabSz T) (hx : RV w vx x) (hte : tabE T = c) (hc : ¬ c = 0) :
  Calls Tryz.prog 27 #[v, vx] w (Ret2 (fun w v => RV w v 0) (fun _ v => v = .int .i64 c) w) := by
 obtain ⟨ao, rc, rfl, hc1, hc2, hc3⟩ := hl.slice
 have hs := Below.refl w.heap.size w
 have HL := Lib.hid hl
 clear hl
 obtain ⟨Cl, Cb, Cj, Cd, C5, C9, C7, rfl⟩ := hx.shape
 have HZ := Lib.hid hz
 have HTE := Lib.hid hte
 have HNE := Lib.hid hc
 clear hz hte hc
 go_enter Tryz.func27, Tryz.ntmps27
 go_wp2_with fail
 refine Calls.abs ?_
 intro w1 hW
 have hG : Gr [] w w1 := by rw [hW]; exact (Gr.refl _ _).alloc.alloc
 have Bp : Below w.heap.size w w1 := hG.below0 hs.size
 have hk : KeepD w w1 := hG.keep True.intro
 have Ju : w.heap.size ≤ w.heap.size := hs.size
 have B2 : Bx w1 (w.heap.size) 38 #[.bool Cl, .slice Cb Cj Cd, .slice C5 C9 C7] := by rw [hW]; exact ((Bx.new0 _ _ _).alloc _)
 have Blk : Bx w1 (w.heap.size + 1) 38 #[.bool false, .slice none 0 0, .slice none 0 0] := by rw [hW]; exact (Bx.new0 _ _ _)
 replace hs := hs.trans Bp
 replace hx := hx.keep hk
 clear hW hG hk Bp
 have Js := Blk.lt
 with_reducible refine (r7_Table _ T _ c (HL.out.mono (C2.kept RC.kept) hs) HZ.out HTE.out).mono ?_
 rintro e w2 ⟨rfl, hb⟩
 replace hs := bStep hs hb
 replace B2 := B2.mono hb
 replace Blk := Blk.mono hb
 replace hx := hx.mono hb
 clear hb
 have q1 : ¬ (c = 0) := HNE.out
 have q1b : (c == 0) = false := beq_eq_false_iff_ne.2 (by omega)
 have q1n : (c != 0) = true := bne_iff_ne.2 (by omega)
 have q1H := Lib.hid q1
 clear q1
 go_wp2_with fail
 with_reducible refine (r7_zero _).mono ?_
 rintro e w3 ⟨_, rfl, h2, hb⟩
 obtain ⟨Dj, De, Di, Df, Da, Dd, Db, rfl⟩ := h2.shape
 replace hs := bStep hs hb
 replace B2 := B2.mono hb
 replace Blk := Blk.mono hb
 replace hx := hx.mono hb
 clear hb
 have Ce := Blk.a0
 have Cf := Blk.a1
 have Cg := Blk.a2
 have fk := Blk.free
 have Lk := Blk.lt
 go_wp2
 clear Ce Cf Cg fk Lk
 refine bodyPost.abs ?_
 intro w4 hW
 have hG : Gr [w.heap.size + 1] w3 w4 := by rw [hW]; exact (Gr.refl _ _).set.set.set
 have Cv := hs.size
 have lk := Blk.lt
 have Bp : Below w.heap.size w3 w4 := hG.below1 hs.size (by first | omega | assumption)
 have hk : KeepD w3 w4 := hG.keep ⟨⟨_, Blk.ty, by decide⟩, True.intro⟩
 have Cu : Bx w4 (w.heap.size + 1) 38 #[.bool Dj, .slice De Di Df, .slice Da Dd Db] := by rw [hW]; exact Blk.set3
 replace hs := hs.trans Bp
 replace B2 := hG.bx B2 (notMem1 (by omega))
 replace Blk := Cu
 clear Cu
 replace hx := hx.keep hk
 replace h2 := h2.keep hk
 clear hW hG hk Bp Cv lk
 have Ce := Blk.a0
 have Cf := Blk.a1
 have Cg := Blk.a2
 exact bodyPost_ret (v := .tuple #[.agg #[.bool Dj, .slice De Di Df, .slice Da Dd Db], .int .i64 c]) (by simp [results, Tryz.results27, go_sem, Ce, Cf, Cg]) rfl ⟨_, _, rfl, h2, rfl, hs⟩
theorem r7_Value (v : Value) (T : List Stp) (vx : Value) (x q : Rat) (c : Int) (w : World) (hl : Rows 6 155 (C2 RC) w v T) (hz : TabSz T) (hx : RV w vx x) (sx : SzQ 100 x) (hv : fullV T x = (q, c)) :
  Calls Tryz.prog 27 #[v, vx] w (Ret2 (fun w v => RV w v q) (fun _ v => v = .int .i64 c) w) := by
 unfold fullV at hv
 by_cases h : tabE T = 0
 ·rw [if_pos h] at hv
  have h1 : 1 ≤ T.length := by
   unfold tabE at h
   split at h
   ·cases h
   ·omega
  have hA : ascB T T.length = true := by
   unfold tabE at h
   split at h
   ·cases h
   ·split at h
    ·cases h
    ·split at h
     ·assumption
     ·cases h
  exact r7_Value_ok v T vx x q c w hl h1 hz hx sx h (ascB_asc _ hA) hv
 ·rw [if_neg h] at hv
  obtain ⟨rfl, rfl⟩ := Prod.mk.inj hv
  exact r7_Value_bad v T vx x _ w hl hz hx rfl h
end Go.Proofs.YtkfekkhhfpkfaaaGreat
