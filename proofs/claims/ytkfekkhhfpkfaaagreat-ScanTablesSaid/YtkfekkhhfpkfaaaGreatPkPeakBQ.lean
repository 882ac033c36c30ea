/-
  scan.exact where there is an error: a trace that is too long, a sample that is no number.
-/
import Derived.Test.YtkfekkhhfpkfaaaGreatPkPeakQ
import Derived.Test.YtkfekkhhfpkfaaaGreatPkFltQ
set_option linter.unusedSimpArgs false
set_option linter.unusedVariables false
set_option maxRecDepth 100000
set_option maxHeartbeats 16000000
namespace Go.Proofs.YtkfekkhhfpkfaaaGreat
open Go.RowKit Dg
attribute [local go_sem ↓] Go.wp_at_zero Go.wp_at_succ
theorem sc_exact_bad (v : Value) (l : List (Nat × Rat)) (w : World) (hl : RowsI 1 F32 w v l) (h256 : l.length ≤ 256) (m : Nat) (hm : m < l.length) (hok : ∀ i x, i < m → l[i]? = some x → FlOk x) (hbad : ∀ x, l[m]? = some x → f32E x.1 = 255) :
  Calls Tryz.prog 67 #[v] w (Ret2 (fun _ v => v = .slice none 0 0) (fun _ v => v = .int .i64 1) w) := by
 obtain ⟨ao, cap, rfl, hc1, hc2, hc3⟩ := hl.slice
 have hs := Below.refl w.heap.size w
 have HL := Lib.hid hl
 have HOK := Lib.hid hok
 have HBAD := Lib.hid hbad
 obtain ⟨i0, hi, hz0, hz1, hz2⟩ := info_parts ratio_info
 clear hl hok hbad
 go_enter Tryz.func67, Tryz.ntmps67
 go_wp2
 go_loopw [4, 14] (fun av iv wq => ∃ k : Nat, k ≤ m ∧ iv = .int .i64 k ∧ Below w.heap.size w wq ∧ OwnR w.heap.size 32 3 PC wq av ((l.take k).map Prod.snd)) (fun _ iv _ => l.length - (intOf iv).toNat)
 case atStart => exact ⟨0, Nat.zero_le _, rfl, hs, OwnR.nil _ _ _ _ _⟩
 case round =>
  obtain ⟨k, hk, rfl, hs, B0⟩ := hrel
  have Bm : k < l.length := by omega
  have hkl : k ≤ l.length := by omega
  by_cases hlt : k < m
  ·obtain ⟨⟨b32, q⟩, hx⟩ : ∃ x, l[k]? = some x := ⟨_, List.getElem?_eq_getElem Bm⟩
   obtain ⟨b, o, c, cs, hv, Bj, B5, rfl⟩ := (HL.out.mono F32.kept hs).get hx
   obtain ⟨rfl, rfl⟩ := sliceE hv
   obtain ⟨b64, Bd, hfl⟩ := HOK.out _ _ hlt hx
   have e0 := B5 0 _ rfl
   clear B5
   simp only [Nat.add_zero, Nat.mul_one] at e0
   have HM := Lib.hid (map_take Prod.snd l k _ hx)
   have hlm : ((l.take k).map Prod.snd).length = k := by rw [List.length_map, List.length_take]; omega
   have HFL := Lib.hid hfl
   clear hx hv Bj hfl
   try dsimp only at e0 Bd
   go_wp2_with fail
   refine (HFL.out _).mono ?_
   rintro e B2 ⟨_, rfl, hq, hb⟩
   obtain ⟨Bg, Ba, Bf, Bb, B7, B9, B8, rfl⟩ := hq.shape
   replace hs := bStep hs hb
   replace B0 := B0.mono PC.kept hb
   clear hb e0 Bd
   go_wp2_with (at_builtin; refine wpList.stop ?_)
   refine ⟨?_⟩
   refine wpList.abs ?_
   intro B6 hW
   have hsz := hs.size
   have Bc : Below w.heap.size B2 B6 := by rw [hW]; exact (Below.alloc (Below.alloc (Below.refl w.heap.size B2) (by first | exact hs.size | (have := hs.size; simp; done) | (have := hs.size; simp; omega)) _) (by first | exact hs.size | (have := hs.size; simp; done) | (have := hs.size; simp; omega)) _)
   have Be : Below w.heap.size w B6 := hs.trans Bc
   have hk : KeepD B2 B6 := by rw [hW]; exact (((KeepD.refl _).alloc _).alloc _)
   have hb1 : Below B2.heap.size B2 B6 := by rw [hW]; exact (Below.alloc (Below.alloc (Below.refl _ _) (by first | exact Nat.le_refl _ | (simp; done) | (simp; omega)) _) (by first | exact Nat.le_refl _ | (simp; done) | (simp; omega)) _)
   have B4 : Bx B6 (B2.heap.size) 32 #[.bool Bg, .slice Ba Bf Bb, .slice B7 B9 B8] := by rw [hW]; exact ((Bx.new' _ _ _ _ (by first | rfl | (simp; done))).alloc _)
   have Bl : Bx B6 (B2.heap.size + 1) 32 #[.bool Bg, .slice Ba Bf Bb, .slice B7 B9 B8] := by rw [hW]; exact (Bx.new' _ _ _ _ (by first | rfl | (simp; done)))
   replace hs := Be
   clear Be
   have Blx := B4
   clear B4
   have Ble := Bl
   clear Bl
   replace hq := hq.keep hk
   replace B0 := B0.mono PC.kept hb1
   clear hb1
   clear hW hk hsz Bc
   have hz_w22 := Ble.lt
   obtain ⟨css, ho1, ho2, ho3, B1⟩ := B0
   refine wpList_append_lies _ rfl _ _ _ rfl w.heap.size 32 i0 _ 3 56 Tryz.underlying25 hi hz0 hz1 hz2 rfl (by omega) _ _ css.flatten rfl B1 ⟨B2.heap.size + 1, 0, none⟩ 1 1 [.bool Bg, .slice Ba Bf Bb, .slice B7 B9 B8] rfl rfl Ble.news ?_ (by omega) ?_ ?_ ?_ _ rfl ?_
   ·intro u hu; simp only [List.mem_cons, List.mem_nil_iff, or_false] at hu; rcases hu with rfl | rfl | rfl <;> rfl
   ·unfold maxLen; omega
   ·omega
   ·exact hs.size
   intro gpa cappa w23 Bk B3 B5 hlt_
   have hk_ := KeepD.owns B1 B3 (by decide)
   have ho := owns_onlyT B1 B3
   replace hs := hs.grown B3 hs.size (fun k hk => (B1.lt k hk).1)
   replace B0 := OwnR.push PC.kept ho1 ho2 ho3 (x := q) rfl ⟨_, _, _, rfl, hq⟩ Bk hk_
   replace hq := hq.keep hk_
   clear hk_ ho ho1 ho2 ho3 B1 Bk B3 B5 hlt_ Blx Ble
   go_wp2
   go_roundw
   case rel => exact ⟨k + 1, by omega, by go_num, hs, by rw [HM.out]; rw [hlm] at B0; exact B0⟩
   all_goals first | (simp [intOf]; done) | (simp [intOf]; omega)
  ·obtain ⟨⟨b32, q⟩, hx⟩ : ∃ x, l[k]? = some x := ⟨_, List.getElem?_eq_getElem Bm⟩
   obtain ⟨b, o, c, cs, hv, Bj, B5, rfl⟩ := (HL.out.mono F32.kept hs).get hx
   obtain ⟨rfl, rfl⟩ := sliceE hv
   have hkm : k = m := by omega
   have hb3 := HBAD.out _ (hkm ▸ hx)
   obtain ⟨b64, wn, Bd, hwn, hb64, -, hE⟩ := cv_any b32 wr
   have hE' := hE hb3
   have e0 := B5 0 _ rfl
   clear B5
   simp only [Nat.add_zero, Nat.mul_one] at e0
   have HFL := Lib.hid (fun w => float_odd hb64 hE' w)
   have hbn : Below wr.heap.size wr wn := by rcases hwn with rfl | rfl; exact Below.refl _ _; exact bDrew _
   clear hx hv Bj hkm hb3 hwn hE hE'
   try dsimp only at e0 Bd
   go_wp2_with fail
   replace hs := bStep hs hbn
   clear hbn B0 e0 Bd
   refine (HFL.out _).mono ?_
   rintro e Bh ⟨_, rfl, hq, hb⟩
   obtain ⟨Bg, Ba, Bf, Bb, B7, B9, B8, rfl⟩ := hq.shape
   replace hs := bStep hs hb
   clear hb
   go_wp2
   refine bodyPost.abs ?_
   intro Bi hW
   have hsz := hs.size
   have Bc : Below w.heap.size Bh Bi := by rw [hW]; exact (Below.alloc (Below.refl w.heap.size Bh) (by first | exact hs.size | (have := hs.size; simp; done) | (have := hs.size; simp; omega)) _)
   have Be : Below w.heap.size w Bi := hs.trans Bc
   have hk : KeepD Bh Bi := by rw [hW]; exact ((KeepD.refl _).alloc _)
   have B4 : Bx Bi (Bh.heap.size) 32 #[.bool Bg, .slice Ba Bf Bb, .slice B7 B9 B8] := by rw [hW]; exact (Bx.new' _ _ _ _ (by first | rfl | (simp; done)))
   replace hs := Be
   clear Be
   have Blx := B4
   clear B4
   clear hW hk hsz Bc
   have hz_w42 := Blx.lt
   go_ret2
   exact ⟨_, _, rfl, rfl, rfl, hs⟩
theorem sc_exact_long (v : Value) (l : List (Nat × Rat)) (w : World) (hl : RowsI 1 F32 w v l) (h256 : 256 < l.length) :
  Calls Tryz.prog 67 #[v] w (Ret2 (fun _ v => v = .slice none 0 0) (fun _ v => v = .int .i64 4) w) := by
 obtain ⟨ao, cap, rfl, hc1, hc2, hc3⟩ := hl.slice
 go_enter Tryz.func67, Tryz.ntmps67
 go_wp2
 go_ret2
 exact ⟨_, _, rfl, rfl, rfl, Below.refl _ _⟩
theorem flok_of {x : Nat} (h : f32E x ≠ 255) : FlOk (x, flQ (cvF x)) := ⟨cvF x, cv_num h, float_fin (cv_fin h).1 (cv_fin h).2⟩
end Go.Proofs.YtkfekkhhfpkfaaaGreat
namespace Go.Proofs.YtkfekkhhfpkfaaaGreat
open Go.RowKit Dg
attribute [local go_sem ↓] Go.wp_at_zero Go.wp_at_succ
end Go.Proofs.YtkfekkhhfpkfaaaGreat
namespace Go.Proofs.YtkfekkhhfpkfaaaGreat
open Go.RowKit Dg
attribute [local go_sem ↓] Go.wp_at_zero Go.wp_at_succ
def yQ (ys : List Nat) : List Rat := ys.map fun x => flQ (cvF x)
def traceE (ys : List Nat) : Int := if 256 < ys.length then 4 else if ys.any (fun x => decide (f32E x = 255)) then 1 else 0
theorem first_odd : ∀ ys : List Nat, ys.any (fun x => decide (f32E x = 255)) = true → ∃ m, m < ys.length ∧ (∀ i x, i < m → ys[i]? = some x → f32E x ≠ 255) ∧ ∀ x, ys[m]? = some x → f32E x = 255
 | [], h => by simp at h
 | y :: ys, h => by
  by_cases e : f32E y = 255
  ·exact ⟨0, by simp, fun i x hi _ => by omega, fun x hx => by simp at hx; rw [← hx]; exact e⟩
  ·have h1 : ys.any (fun x => decide (f32E x = 255)) = true := by simpa [e] using h
   obtain ⟨m, hm, h2, h3⟩ := first_odd ys h1
   refine ⟨m + 1, by simpa using hm, fun i x hi hx => ?_, fun x hx => h3 x (by simpa using hx)⟩
   cases i with
   | zero => simp at hx; rw [← hx]; exact e
   | succ i => exact h2 i x (by omega) (by simpa using hx)
end Go.Proofs.YtkfekkhhfpkfaaaGreat
namespace Go.Proofs.YtkfekkhhfpkfaaaGreat
open Go.RowKit Dg
attribute [local go_sem ↓] Go.wp_at_zero Go.wp_at_succ
theorem run_store_float {P : Program} {w : World} {a : Addr} {m : Mode} (k : FloatKind) (b : Nat) : (store a (.float k b) m).run P w = stored P w a (.float k b) m := run_store P w a _ m rfl
attribute [local go_sem] run_store_float
theorem trace_zero {ys : List Nat} (h : traceE ys = 0) : ys.length ≤ 256 ∧ ∀ y ∈ ys, f32E y ≠ 255 := by
 unfold traceE at h
 split at h
 ·cases h
 ·split at h
  ·cases h
  ·rename_i h1 h2
   exact ⟨by omega, fun y hy hE => h2 (List.any_eq_true.2 ⟨y, hy, decide_eq_true hE⟩)⟩
end Go.Proofs.YtkfekkhhfpkfaaaGreat
