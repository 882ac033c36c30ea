/-
  Law 07: what the laws over spans share: short pairs, spans by letters.
-/
import Derived.Test.YtkfekkhhfpkfaaaGreatPkSpanQ
set_option linter.unusedSimpArgs false
set_option linter.unusedVariables false
set_option maxRecDepth 100000
set_option maxHeartbeats 4000000
namespace Go.Proofs.YtkfekkhhfpkfaaaGreat
open Go.RowKit Dg
attribute [local go_sem ↓] Go.wp_at_zero Go.wp_at_succ
theorem rowsF2 {w : World} {g : Nat} {T : TypeId} {n1 d1 n2 d2 : Int} (h : Bx w g T #[.int .i64 n1, .int .i64 d1, .int .i64 n2, .int .i64 d2]) : RowsI 2 FC w (.slice (some ⟨g, 0, none⟩) 2 2) [(n1, d1), (n2, d2)] := by
 refine ⟨_, 2, rfl, Nat.le_refl _, by decide, (fun e => by cases e), fun i x hx => ?_⟩
 match i, hx with
 | 0, hx => cases hx; exact ⟨g, 0, [_, _], rfl, rfl, (fun j u hu => by match j, hu with | 0, hu => cases hu; exact h.at 0 rfl | 1, hu => cases hu; exact h.at 1 rfl), rfl⟩
 | 1, hx => cases hx; exact ⟨g, 0, [_, _], rfl, rfl, (fun j u hu => by match j, hu with | 0, hu => cases hu; exact h.at 2 rfl | 1, hu => cases hu; exact h.at 3 rfl), rfl⟩
theorem short2 {x y : Int × Int} (h : [x, y].all shortF = true) : shortF x = true ∧ shortF y = true := by simpa using h
theorem short_sz {x : Int × Int} (h : shortF x = true) (o : DOk x) : SzQ 1 (fracQ x.1 x.2) := by
 obtain ⟨n, d⟩ := x
 obtain ⟨b1, b2, b3, b4⟩ := o
 simp only [shortF, Bool.not_eq_true', Bool.or_eq_false_iff, decide_eq_false_iff_not] at h
 dsimp only at b1 b2 b3 b4
 exact szQ_fracQ (by omega) (by omega)
def spLo (n1 d1 n2 d2 : Int) : Rat := mnQ (fracQ n1 d1) (fracQ n2 d2)
def spHi (n1 d1 n2 d2 : Int) : Rat := mxQ (fracQ n1 d1) (fracQ n2 d2)
theorem sp_sz {n1 d1 n2 d2 : Int} (h : [(n1, d1), (n2, d2)].all shortF = true) (o1 : DOk (n1, d1)) (o2 : DOk (n2, d2)) : SzQ 1 (spLo n1 d1 n2 d2) ∧ SzQ 1 (spHi n1 d1 n2 d2) :=
 ⟨mnQ_sz (short_sz (short2 h).1 o1) (short_sz (short2 h).2 o2), mxQ_sz (short_sz (short2 h).1 o1) (short_sz (short2 h).2 o2)⟩
theorem l7_span_ {n1 d1 n2 d2 : Int} {lo hi : Rat} (w : World) (h : [(n1, d1), (n2, d2)].all shortF = true) (o1 : DOk (n1, d1)) (o2 : DOk (n2, d2)) (hlo : spLo n1 d1 n2 d2 = lo) (hhi : spHi n1 d1 n2 d2 = hi) :
  Calls Tryz.prog 31 #[.agg #[.int .i64 n1, .int .i64 d1, .int .i64 n2, .int .i64 d2]] w (Ret2 (fun w v => PV2 w v lo hi) (fun w v => RV2 w v lo hi) w) := by
 subst hlo hhi
 obtain ⟨hs1, hs2⟩ := short2 h
 obtain ⟨a1, a2, a3, a4⟩ := o1
 obtain ⟨b1, b2, b3, b4⟩ := o2
 simp only [shortF, Bool.not_eq_true', Bool.or_eq_false_iff, decide_eq_false_iff_not] at hs1 hs2
 dsimp only at a1 a2 a3 a4 b1 b2 b3 b4
 exact l7_span n1 d1 n2 d2 w (by omega) (by omega) (by omega) (by omega)
end Go.Proofs.YtkfekkhhfpkfaaaGreat
namespace Go.Proofs.YtkfekkhhfpkfaaaGreat
open Go.RowKit Dg
attribute [local go_sem ↓] Go.wp_at_zero Go.wp_at_succ
theorem l7_same (vx vy : Value) (x y : Rat) (w : World) (hx : PV2 w vx x y) (hy : RV2 w vy x y) (sx : Mid x) (sy : Mid y) :
  Calls Tryz.prog 34 #[vx, vy] w (RetV w (.bool true)) := by
 obtain ⟨shxl, ahxl, nhxl, chxl, Ahxl, Nhxl, Chxl, shxh, ahxh, nhxh, chxh, Ahxh, Nhxh, Chxh, rfl, hxl, hxh⟩ := hx.shape
 obtain ⟨shyl, ahyl, nhyl, chyl, Ahyl, Nhyl, Chyl, shyh, ahyh, nhyh, chyh, Ahyh, Nhyh, Chyh, rfl, hyl, hyh⟩ := hy.shape
 clear hx hy
 have hs := Below.refl w.heap.size w
 go_enter Tryz.func34, Tryz.ntmps34
 go_upto_region 1 with fail
 refine Code.abs ?_
 intro w1 hW
 have hG : Gr [] w w1 := by rw [hW]; exact (Gr.refl _ _).alloc.alloc
 have hbw : Below w.heap.size w w1 := hG.below0 hs.size
 have hk : KeepD w w1 := hG.keep True.intro
 have sz_w1 : w.heap.size ≤ w.heap.size := hs.size
 have Blx : Bx w1 (w.heap.size) 85 #[.bool shxl, .slice ahxl nhxl chxl, .slice Ahxl Nhxl Chxl, .bool shxh, .slice ahxh nhxh chxh, .slice Ahxh Nhxh Chxh] := by rw [hW]; exact ((Bx.new0 _ _ _).alloc _)
 have Bly : Bx w1 (w.heap.size + 1) 87 #[.bool shyl, .slice ahyl nhyl chyl, .slice Ahyl Nhyl Chyl, .bool shyh, .slice ahyh nhyh chyh, .slice Ahyh Nhyh Chyh] := by rw [hW]; exact (Bx.new0 _ _ _)
 replace hs := hs.trans hbw
 replace hxl := hxl.keep hk
 replace hxh := hxh.keep hk
 replace hyl := hyl.keep hk
 replace hyh := hyh.keep hk
 clear hW hG hk hbw
 have hz_w1 := Bly.lt
 have hb := bDrew w1
 replace hs := bStep hs hb
 replace Blx := Blx.mono hb
 replace Bly := Bly.mono hb
 replace hxl := hxl.mono hb
 replace hxh := hxh.mono hb
 replace hyl := hyl.mono hb
 replace hyh := hyh.mono hb
 clear hb
 have B0 := Blx.a0
 have B1 := Blx.a1
 have B2 := Blx.a2
 have B3 := Blx.a3
 have B4 := Blx.a4
 have B5 := Blx.a5
 have B6 := Bly.a0
 have B7 := Bly.a1
 have B8 := Bly.a2
 have B9 := Bly.a3
 have Ba := Bly.a4
 have Bb := Bly.a5
 go_region_held3 (fun w' => w'.cell? ⟨w.heap.size, 0, none⟩ = some (.bool shxl) ∧ w'.cell? ⟨w.heap.size, 1, none⟩ = some (.slice ahxl nhxl chxl) ∧ w'.cell? ⟨w.heap.size, 2, none⟩ = some (.slice Ahxl Nhxl Chxl) ∧ w'.cell? ⟨w.heap.size, 3, none⟩ = some (.bool shxh) ∧ w'.cell? ⟨w.heap.size, 4, none⟩ = some (.slice ahxh nhxh chxh) ∧ w'.cell? ⟨w.heap.size, 5, none⟩ = some (.slice Ahxh Nhxh Chxh) ∧ w'.cell? ⟨w.heap.size + 1, 0, none⟩ = some (.bool shyl) ∧ w'.cell? ⟨w.heap.size + 1, 1, none⟩ = some (.slice ahyl nhyl chyl) ∧ w'.cell? ⟨w.heap.size + 1, 2, none⟩ = some (.slice Ahyl Nhyl Chyl) ∧ w'.cell? ⟨w.heap.size + 1, 3, none⟩ = some (.bool shyh) ∧ w'.cell? ⟨w.heap.size + 1, 4, none⟩ = some (.slice ahyh nhyh chyh) ∧ w'.cell? ⟨w.heap.size + 1, 5, none⟩ = some (.slice Ahyh Nhyh Chyh))
  (first | exact ⟨B0, B1, B2, B3, B4, B5, B6, B7, B8, B9, Ba, Bb⟩ | exact ⟨cellA B0 _, cellA B1 _, cellA B2 _, cellA B3 _, cellA B4 _, cellA B5 _, cellA B6 _, cellA B7 _, cellA B8 _, cellA B9 _, cellA Ba _, cellA Bb _⟩ | go_keep)
  (first
   | (go_at_call 94; (with_reducible refine (p_Lo _ _ _ _ (PV2.mk hxl hxh)).mono ?_); rintro e w2 ⟨_, rfl, h1, hb⟩; obtain ⟨sh1, ah1, nh1, ch1, Ah1, Nh1, Ch1, rfl⟩ := h1.shape; replace hs := bStep hs hb; replace Blx := Blx.mono hb; replace Bly := Bly.mono hb; replace hxl := hxl.mono hb; replace hxh := hxh.mono hb; replace hyl := hyl.mono hb; replace hyh := hyh.mono hb; replace B0 := cellK B0 hb; replace B1 := cellK B1 hb; replace B2 := cellK B2 hb; replace B3 := cellK B3 hb; replace B4 := cellK B4 hb; replace B5 := cellK B5 hb; replace B6 := cellK B6 hb; replace B7 := cellK B7 hb; replace B8 := cellK B8 hb; replace B9 := cellK B9 hb; replace Ba := cellK Ba hb; replace Bb := cellK Bb hb; clear hb)
   | (go_at_call 13; (with_reducible refine (l7_is _ _ _ _ h1 hyl (SzQ.fit sx)).mono ?_); rintro e w3 ⟨rfl, hb⟩; replace hs := bStep hs hb; replace Blx := Blx.mono hb; replace Bly := Bly.mono hb; replace hxl := hxl.mono hb; replace hxh := hxh.mono hb; replace hyl := hyl.mono hb; replace hyh := hyh.mono hb; replace h1 := h1.mono hb; replace B0 := cellK B0 hb; replace B1 := cellK B1 hb; replace B2 := cellK B2 hb; replace B3 := cellK B3 hb; replace B4 := cellK B4 hb; replace B5 := cellK B5 hb; replace B6 := cellK B6 hb; replace B7 := cellK B7 hb; replace B8 := cellK B8 hb; replace B9 := cellK B9 hb; replace Ba := cellK Ba hb; replace Bb := cellK Bb hb; clear hb)
   | (go_at_call 95; (with_reducible refine (p_Hi _ _ _ _ (PV2.mk hxl hxh)).mono ?_); rintro e w4 ⟨_, rfl, h2, hb⟩; obtain ⟨sh2, ah2, nh2, ch2, Ah2, Nh2, Ch2, rfl⟩ := h2.shape; replace hs := bStep hs hb; replace Blx := Blx.mono hb; replace Bly := Bly.mono hb; replace hxl := hxl.mono hb; replace hxh := hxh.mono hb; replace hyl := hyl.mono hb; replace hyh := hyh.mono hb; replace h1 := h1.mono hb; replace B0 := cellK B0 hb; replace B1 := cellK B1 hb; replace B2 := cellK B2 hb; replace B3 := cellK B3 hb; replace B4 := cellK B4 hb; replace B5 := cellK B5 hb; replace B6 := cellK B6 hb; replace B7 := cellK B7 hb; replace B8 := cellK B8 hb; replace B9 := cellK B9 hb; replace Ba := cellK Ba hb; replace Bb := cellK Bb hb; clear hb)
   | (go_at_call 13; (with_reducible refine (l7_is _ _ _ _ h2 hyh (SzQ.fit sy)).mono ?_); rintro e w5 ⟨rfl, hb⟩; replace hs := bStep hs hb; replace Blx := Blx.mono hb; replace Bly := Bly.mono hb; replace hxl := hxl.mono hb; replace hxh := hxh.mono hb; replace hyl := hyl.mono hb; replace hyh := hyh.mono hb; replace h1 := h1.mono hb; replace h2 := h2.mono hb; replace B0 := cellK B0 hb; replace B1 := cellK B1 hb; replace B2 := cellK B2 hb; replace B3 := cellK B3 hb; replace B4 := cellK B4 hb; replace B5 := cellK B5 hb; replace B6 := cellK B6 hb; replace B7 := cellK B7 hb; replace B8 := cellK B8 hb; replace B9 := cellK B9 hb; replace Ba := cellK Ba hb; replace Bb := cellK Bb hb; clear hb))
 clear B0 B1 B2 B3 B4 B5 B6 B7 B8 B9 Ba Bb
 go_wp2
 go_ret
 exact ⟨rfl, hs⟩
end Go.Proofs.YtkfekkhhfpkfaaaGreat
