/-
  Reference 07: odd, exact, Trace and gate, at any float32.
-/
import Derived.Test.YtkfekkhhfpkfaaaGreatPkPeakBQ
import Derived.Test.YtkfekkhhfpkfaaaGreatFlt5Q
import Derived.Test.YtkfekkhhfpkfaaaGreatPkHeld3Q
set_option linter.unusedSimpArgs false
set_option linter.unusedVariables false
set_option maxRecDepth 100000
set_option maxHeartbeats 4000000
namespace Go.Proofs.YtkfekkhhfpkfaaaGreat
open Go.RowKit Dg
attribute [local go_sem ↓] Go.wp_at_zero Go.wp_at_succ
theorem r7_odd_yes {x : Nat} (h : f32E x = 255) (w : World) : Calls Tryz.prog 124 #[.float .f32 x] w (RetV w (.bool true)) := by
 have hs := cvW_below x w
 have Bh := cv_run x
 have HF := Lib.hid (rfloat_odd (cvB_lt x w) (cvB_odd h w) (cvW x w))
 clear h
 go_enter Tryz.func124, Tryz.ntmps124
 go_wp2_with fail
 clear Bh
 generalize cvW x w = w1 at *
 generalize cvB x w = b at *
 refine HF.out.mono ?_
 rintro e w2 ⟨_, rfl, hq, hb⟩
 obtain ⟨Bd, Ba, Bc, Bb, B7, B9, B8, rfl⟩ := hq.shape
 replace hs := bStep hs hb
 clear hb
 go_wp2
 refine bodyPost.abs ?_
 intro w3 hW
 have Be := hs.size
 have B2 : Below w.heap.size w2 w3 := by rw [hW]; exact (Below.alloc (Below.refl w.heap.size w2) (by first | exact hs.size | (have := hs.size; simp; done) | (have := hs.size; simp; omega)) _)
 have B3 : Below w.heap.size w w3 := hs.trans B2
 have hk : KeepD w2 w3 := by rw [hW]; exact ((KeepD.refl _).alloc _)
 have B1 : Bx w3 (w2.heap.size) 38 #[.bool Bd, .slice Ba Bc Bb, .slice B7 B9 B8] := by rw [hW]; exact (Bx.new' _ _ _ _ (by first | rfl | (simp; done)))
 replace hs := B3
 clear B3
 have B6 := B1
 clear B1
 clear hW hk Be B2
 have Bi := B6.lt
 go_ret
 exact ⟨rfl, hs⟩
theorem r7_odd_no {x : Nat} (h : f32E x ≠ 255) (w : World) : Calls Tryz.prog 124 #[.float .f32 x] w (RetV w (.bool false)) := by
 have hs := cvW_below x w
 have Bh := cv_run x
 have HF := Lib.hid (rfloat_fin (cvB_lt x w) (cvB_fin h w) (cvW x w))
 clear h
 go_enter Tryz.func124, Tryz.ntmps124
 go_wp2_with fail
 clear Bh
 generalize cvW x w = w1 at *
 generalize cvB x w = b at *
 refine HF.out.mono ?_
 rintro e w2 ⟨_, rfl, hq, hb⟩
 obtain ⟨Bd, Ba, Bc, Bb, B7, B9, B8, rfl⟩ := hq.shape
 replace hs := bStep hs hb
 clear hb
 go_wp2
 refine bodyPost.abs ?_
 intro w3 hW
 have Be := hs.size
 have B2 : Below w.heap.size w2 w3 := by rw [hW]; exact (Below.alloc (Below.refl w.heap.size w2) (by first | exact hs.size | (have := hs.size; simp; done) | (have := hs.size; simp; omega)) _)
 have B3 : Below w.heap.size w w3 := hs.trans B2
 have hk : KeepD w2 w3 := by rw [hW]; exact ((KeepD.refl _).alloc _)
 have B1 : Bx w3 (w2.heap.size) 38 #[.bool Bd, .slice Ba Bc Bb, .slice B7 B9 B8] := by rw [hW]; exact (Bx.new' _ _ _ _ (by first | rfl | (simp; done)))
 replace hs := B3
 clear B3
 have B6 := B1
 clear B1
 clear hW hk Be B2
 have Bi := B6.lt
 go_ret
 exact ⟨rfl, hs⟩
theorem r7_exact {x : Nat} (h : f32E x ≠ 255) (w : World) : Calls Tryz.prog 72 #[.float .f32 x] w (RetQ w (flQ (cvF x))) := by
 have hs := Below.refl w.heap.size w
 have Bh := cv_num h
 have HF := Lib.hid (rfloat_fin (cv_fin h).1 (cv_fin h).2)
 clear h
 go_enter Tryz.func72, Tryz.ntmps72
 go_wp2_with fail
 clear Bh
 refine Calls.abs ?_
 intro w1 hW
 have Be := hs.size
 have B2 : Below w.heap.size w w1 := by rw [hW]; exact (Below.alloc (Below.refl w.heap.size w) (by first | exact hs.size | (have := hs.size; simp; done) | (have := hs.size; simp; omega)) _)
 have B3 : Below w.heap.size w w1 := hs.trans B2
 have hk : KeepD w w1 := by rw [hW]; exact ((KeepD.refl _).alloc _)
 have B5 : Bx w1 (w.heap.size) 38 #[.bool false, .slice none 0 0, .slice none 0 0] := by rw [hW]; exact (Bx.new' _ _ _ _ (by first | rfl | (simp; done)))
 replace hs := B3
 clear B3
 have B0 := B5
 clear B5
 clear hW hk Be B2
 have hz_w1 := B0.lt
 refine (HF.out _).mono ?_
 rintro e w2 ⟨_, rfl, hq, hb⟩
 obtain ⟨Bd, Ba, Bc, Bb, B7, B9, B8, rfl⟩ := hq.shape
 replace hs := bStep hs hb
 replace B0 := B0.mono hb
 clear hb
 have nzx := B0.lt
 go_upto_region 2 with fail
 refine Code.abs ?_
 intro w3 hW
 have Be := hs.size
 have lz := B0.lt
 have B2 : Below w.heap.size w2 w3 := by rw [hW]; exact (Below.alloc (Below.refl w.heap.size w2) (by first | exact hs.size | (have := hs.size; simp; done) | (have := hs.size; simp; omega)) _)
 have B3 : Below w.heap.size w w3 := hs.trans B2
 have hk : KeepD w2 w3 := by rw [hW]; exact ((KeepD.refl _).alloc _)
 have B5 : Bx w3 (w.heap.size) 38 #[.bool false, .slice none 0 0, .slice none 0 0] := by rw [hW]; exact (B0.alloc _)
 have B1 : Bx w3 (w2.heap.size) 38 #[.bool Bd, .slice Ba Bc Bb, .slice B7 B9 B8] := by rw [hW]; exact (Bx.new' _ _ _ _ (by first | rfl | (simp; done)))
 replace hs := B3
 clear B3
 replace B0 := B5
 clear B5
 have B6 := B1
 clear B1
 replace hq := hq.keep hk
 clear hW hk Be B2 lz
 have Bi := B6.lt
 have Bm := B6.a0
 have Bn := B6.a1
 have Bo := B6.a2
 have Bj := B0.a0
 have Bk := B0.a1
 have Bl := B0.a2
 have fz := B0.free
 have Lz := B0.lt
 go_wp2
 refine bodyPost.abs ?_
 intro w4 hW
 have Be := hs.size
 have lz := B0.lt
 have lx := B6.lt
 have B2 : Below w.heap.size w3 w4 := by rw [hW]; exact (Below.setCell (Below.setCell (Below.setCell (Below.refl w.heap.size w3) (by first | exact Nat.le_refl _ | omega | (have := hs.size; simp; done) | (have := hs.size; simp; omega)) _) (by first | exact Nat.le_refl _ | omega | (have := hs.size; simp; done) | (have := hs.size; simp; omega)) _) (by first | exact Nat.le_refl _ | omega | (have := hs.size; simp; done) | (have := hs.size; simp; omega)) _)
 have B3 : Below w.heap.size w w4 := hs.trans B2
 have hk : KeepD w3 w4 := by rw [hW]; exact (KeepD.set (KeepD.set (KeepD.set (KeepD.refl _) B0.ty (by decide) _ _) (TyB.store B0.ty _ _) (by decide) _ _) (TyB.store (TyB.store B0.ty _ _) _ _) (by decide) _ _)
 have B5 : Bx w4 (w.heap.size) 38 #[.bool Bd, .slice Ba Bc Bb, .slice B7 B9 B8] := by rw [hW]; exact (Bx.set (Bx.set (Bx.set B0 0 _ rfl) 1 _ rfl) 2 _ rfl)
 have B1 : Bx w4 (w2.heap.size) 38 #[.bool Bd, .slice Ba Bc Bb, .slice B7 B9 B8] := by rw [hW]; exact (Bx.far (Bx.far (Bx.far B6 (by first | omega | (simp; done) | (simp; omega)) _) (by first | omega | (simp; done) | (simp; omega)) _) (by first | omega | (simp; done) | (simp; omega)) _)
 replace hs := B3
 clear B3
 replace B0 := B5
 clear B5
 replace B6 := B1
 clear B1
 replace hq := hq.keep hk
 clear hW hk Be B2 lz lx
 have Bj := B0.a0
 have Bk := B0.a1
 have Bl := B0.a2
 exact bodyPost_ret (v := .agg #[.bool Bd, .slice Ba Bc Bb, .slice B7 B9 B8]) (by simp [results, Tryz.results72, go_sem, Bj, Bk, Bl]) rfl ⟨_, rfl, hq, hs⟩
theorem r7_Trace_ok (v : Value) (l : List (Nat × Rat)) (w : World) (hl : RowsI 1 F32 w v l) (h256 : l.length ≤ 256) (hok : ∀ x ∈ l, f32E x.1 ≠ 255) : Calls Tryz.prog 69 #[v] w (RetV w (.int .i64 0)) := by
 obtain ⟨ao, cap, rfl, hc1, hc2, hc3⟩ := hl.slice
 have hs := Below.refl w.heap.size w
 have HL := Lib.hid hl
 have HOK := Lib.hid hok
 clear hl hok
 go_enter Tryz.func69, Tryz.ntmps69
 go_wp2
 go_loopw [3] (fun iv wq => ∃ k : Nat, k ≤ l.length ∧ iv = .int .i64 k ∧ Below w.heap.size w wq) (fun iv _ => l.length - (intOf iv).toNat)
 case atStart => exact ⟨0, Nat.zero_le _, rfl, hs⟩
 case round =>
  obtain ⟨k, hk, rfl, hs⟩ := hrel
  by_cases Bg : k < l.length
  ·obtain ⟨⟨b32, q⟩, hx⟩ : ∃ x, l[k]? = some x := ⟨_, List.getElem?_eq_getElem Bg⟩
   obtain ⟨b, o, c, cs, hv, B4, Bf, rfl⟩ := (HL.out.mono F32.kept hs).get hx
   obtain ⟨rfl, rfl⟩ := sliceE hv
   have e0 := Bf 0 _ rfl
   clear Bf
   simp only [Nat.add_zero, Nat.mul_one] at e0
   have HO := Lib.hid (r7_odd_no (HOK.out _ (List.mem_of_getElem? hx)))
   clear hx hv B4
   try dsimp only at e0
   go_wp2_with fail
   refine (HO.out _).mono ?_
   rintro e w21 ⟨rfl, hb⟩
   replace hs := bStep hs hb
   clear hb e0
   go_wp2
   go_roundw
   case rel => exact ⟨k + 1, by omega, by go_num, hs⟩
   all_goals first | (simp [intOf]; done) | (simp [intOf]; omega)
  ·go_wp2
   go_ret
   exact ⟨rfl, hs⟩
theorem r7_Trace_bad (v : Value) (l : List (Nat × Rat)) (w : World) (hl : RowsI 1 F32 w v l) (h256 : l.length ≤ 256) (m : Nat) (hm : m < l.length) (hok : ∀ i x, i < m → l[i]? = some x → f32E x.1 ≠ 255) (hbad : ∀ x, l[m]? = some x → f32E x.1 = 255) : Calls Tryz.prog 69 #[v] w (RetV w (.int .i64 1)) := by
 obtain ⟨ao, cap, rfl, hc1, hc2, hc3⟩ := hl.slice
 have hs := Below.refl w.heap.size w
 have HL := Lib.hid hl
 have HOK := Lib.hid hok
 have HB := Lib.hid hbad
 clear hl hok hbad
 go_enter Tryz.func69, Tryz.ntmps69
 go_wp2
 go_loopw [3] (fun iv wq => ∃ k : Nat, k ≤ m ∧ iv = .int .i64 k ∧ Below w.heap.size w wq) (fun iv _ => l.length - (intOf iv).toNat)
 case atStart => exact ⟨0, Nat.zero_le _, rfl, hs⟩
 case round =>
  obtain ⟨k, hk, rfl, hs⟩ := hrel
  have Bg : k < l.length := by omega
  by_cases hlt : k < m
  ·obtain ⟨⟨b32, q⟩, hx⟩ : ∃ x, l[k]? = some x := ⟨_, List.getElem?_eq_getElem Bg⟩
   obtain ⟨b, o, c, cs, hv, B4, Bf, rfl⟩ := (HL.out.mono F32.kept hs).get hx
   obtain ⟨rfl, rfl⟩ := sliceE hv
   have e0 := Bf 0 _ rfl
   clear Bf
   simp only [Nat.add_zero, Nat.mul_one] at e0
   have HO := Lib.hid (r7_odd_no (HOK.out _ _ hlt hx))
   clear hx hv B4
   try dsimp only at e0
   go_wp2_with fail
   refine (HO.out _).mono ?_
   rintro e w21 ⟨rfl, hb⟩
   replace hs := bStep hs hb
   clear hb e0
   go_wp2
   go_roundw
   case rel => exact ⟨k + 1, by omega, by go_num, hs⟩
   all_goals first | (simp [intOf]; done) | (simp [intOf]; omega)
  ·have hkm : k = m := by omega
   obtain ⟨⟨b32, q⟩, hx⟩ : ∃ x, l[k]? = some x := ⟨_, List.getElem?_eq_getElem Bg⟩
   obtain ⟨b, o, c, cs, hv, B4, Bf, rfl⟩ := (HL.out.mono F32.kept hs).get hx
   obtain ⟨rfl, rfl⟩ := sliceE hv
   have e0 := Bf 0 _ rfl
   clear Bf
   simp only [Nat.add_zero, Nat.mul_one] at e0
   have HO := Lib.hid (r7_odd_yes (HB.out _ (hkm ▸ hx)))
   clear hkm
   clear hx hv B4
   try dsimp only at e0
   go_wp2_with fail
   refine (HO.out _).mono ?_
   rintro e w21 ⟨rfl, hb⟩
   replace hs := bStep hs hb
   clear hb e0
   go_wp2
   go_ret
   exact ⟨rfl, hs⟩
theorem r7_Trace_long (v : Value) (l : List (Nat × Rat)) (w : World) (hl : RowsI 1 F32 w v l) (h256 : 256 < l.length) : Calls Tryz.prog 69 #[v] w (RetV w (.int .i64 4)) := by
 obtain ⟨ao, cap, rfl, hc1, hc2, hc3⟩ := hl.slice
 go_enter Tryz.func69, Tryz.ntmps69
 go_wp2
 go_ret
 exact ⟨rfl, Below.refl _ _⟩
theorem r7_Trace_calls (v : Value) (ys : List Nat) (w : World) (hl : RowsI 1 F32 w v (ys.map fun x => (x, flQ (cvF x)))) : Calls Tryz.prog 69 #[v] w (RetV w (.int .i64 (traceE ys))) := by
 have B4 : (ys.map fun x => (x, flQ (cvF x))).length = ys.length := List.length_map _
 by_cases h256 : 256 < ys.length
 ·have e : traceE ys = 4 := by unfold traceE; rw [if_pos h256]
  rw [e]
  exact r7_Trace_long v _ w hl (by rw [B4]; exact h256)
 ·by_cases ho : ys.any (fun x => decide (f32E x = 255)) = true
  ·have e : traceE ys = 1 := by unfold traceE; rw [if_neg h256, if_pos ho]
   rw [e]
   obtain ⟨m, hm, h1, h2⟩ := first_odd ys ho
   refine r7_Trace_bad v _ w hl (by rw [B4]; omega) m (by rw [B4]; exact hm) (fun i x hi hx => ?_) fun x hx => ?_
   ·rw [List.getElem?_map] at hx
    obtain ⟨y, hy, rfl⟩ := Option.map_eq_some_iff.1 hx
    exact h1 i y hi hy
   ·rw [List.getElem?_map] at hx
    obtain ⟨y, hy, rfl⟩ := Option.map_eq_some_iff.1 hx
    exact h2 y hy
  ·have hno : ∀ y ∈ ys, f32E y ≠ 255 := fun y hy hE => ho (List.any_eq_true.2 ⟨y, hy, decide_eq_true hE⟩)
   have e : traceE ys = 0 := by unfold traceE; rw [if_neg h256, if_neg ho]
   rw [e]
   refine r7_Trace_ok v _ w hl (by rw [B4]; omega) fun x hx => ?_
   obtain ⟨y, hy, rfl⟩ := List.mem_map.1 hx
   exact hno y hy
end Go.Proofs.YtkfekkhhfpkfaaaGreat
namespace Go.Proofs.YtkfekkhhfpkfaaaGreat
open Go.RowKit Dg
attribute [local go_sem ↓] Go.wp_at_zero Go.wp_at_succ
def nthN (ys : List Nat) (i : Nat) : Nat := ys.getD i 0
theorem nthN_some {ys : List Nat} {i : Nat} (h : i < ys.length) : ys[i]? = some (nthN ys i) := by unfold nthN; rw [List.getD_eq_getElem?_getD, List.getElem?_eq_getElem h]; rfl
theorem atQ_y {ys : List Nat} {i : Nat} (h : i < ys.length) : atQ (yQ ys) i = flQ (cvF (nthN ys i)) := by
 have e := atQ_some (L := yQ ys) (i := i) (by unfold yQ; rw [List.length_map]; exact h)
 unfold yQ at e
 rw [List.getElem?_map, nthN_some h] at e
 exact (Option.some.inj e).symm
theorem rowF_at {w : World} {b o n c : Nat} {ys : List Nat} (h : RowsI 1 F32 w (.slice (some ⟨b, o, none⟩) n c) (ys.map fun x => (x, flQ (cvF x)))) {i : Nat} (hi : i < ys.length) : w.cell? ⟨b, o + i, none⟩ = some (.float .f32 (nthN ys i)) := by
 have hx : (ys.map fun x => (x, flQ (cvF x)))[i]? = some (nthN ys i, flQ (cvF (nthN ys i))) := by rw [List.getElem?_map, nthN_some hi]; rfl
 obtain ⟨b', o', c', cs, hv, hlen, hat, rfl⟩ := h.get hx
 obtain ⟨e1, e2⟩ := sliceE hv
 have e0 := hat 0 _ rfl
 simp only [Nat.add_zero, Nat.mul_one] at e0
 injection e1 with e1
 injection e1 with e3 e4 e5
 rw [e3, e4]
 exact e0
theorem r7_exactY {ys : List Nat} {i : Nat} (hno : ∀ i, i < ys.length → f32E (nthN ys i) ≠ 255) (hi : i < ys.length) (w : World) : Calls Tryz.prog 72 #[.float .f32 (nthN ys i)] w (RetQ w (atQ (yQ ys) i)) := by
 rw [atQ_y hi]
 exact r7_exact (hno i hi) w
theorem atQ_sz {ys : List Nat} {i : Nat} (hno : ∀ i, i < ys.length → f32E (nthN ys i) ≠ 255) (hi : i < ys.length) : SzQ 40 (atQ (yQ ys) i) := by
 rw [atQ_y hi]
 exact flQ_sz (cv_fin (hno i hi)).2
end Go.Proofs.YtkfekkhhfpkfaaaGreat
