/-
  Law 07: what the laws over spans share: short pairs, spans by letters.
-/
import Derived.Test.YtlfnapfnpkhggaaGreatSpan
import Derived.Test.YtlfnapfnpkhggaaGreatNumbers
set_option linter.unusedSimpArgs false
set_option linter.unusedVariables false
namespace Go.Proofs.YtlfnapfnpkhggaaGreat
open Go.RowKit Dg
attribute [local go_sem ↓] Go.wp_at_zero Go.wp_at_succ

theorem rowsF2 {w : World} {g : Nat} {T : TypeId} {n1 d1 n2 d2 : Int} (h : Bx w g T #[.int .i64 n1, .int .i64 d1, .int .i64 n2, .int .i64 d2]) : RowsI 2 FC w (.slice (some ⟨g, 0, none⟩) 2 2) [(n1, d1), (n2, d2)] := by
  refine ⟨_, 2, rfl, Nat.le_refl _, by decide, (fun e => by cases e), fun i x hx => ?_⟩
  match i, hx with
  | 0, hx => cases hx; exact ⟨g, 0, [_, _], rfl, rfl, (fun j u hu => by match j, hu with | 0, hu => cases hu; exact h.at 0 rfl | 1, hu => cases hu; exact h.at 1 rfl), rfl⟩
  | 1, hx => cases hx; exact ⟨g, 0, [_, _], rfl, rfl, (fun j u hu => by match j, hu with | 0, hu => cases hu; exact h.at 2 rfl | 1, hu => cases hu; exact h.at 3 rfl), rfl⟩
theorem short2 {x y : Int × Int} (h : [x, y].all shortF = true) : shortF x = true ∧ shortF y = true := by simpa using h
theorem short_sz {x : Int × Int} (h : shortF x = true) (o : DOk x) : SzQ 1 (fracQ x.1 x.2) := by
  obtain ⟨n, d⟩ := x
  obtain ⟨b1, b2, b3, b4⟩ := o
  simp only [shortF, Bool.not_eq_true', Bool.or_eq_false_iff, decide_eq_false_iff_not] at h
  dsimp only at b1 b2 b3 b4
  exact szQ_fracQ (by omega) (by omega)
theorem list_sz {l : List (Int × Int)} (h : l.all shortF = true) (ok : ∀ x ∈ l, DOk x) : ∀ i, i < (l.map frF).length → SzQ 1 (nthQ (l.map frF) i) := fun i hi => by
  obtain ⟨x, hx, e⟩ := List.mem_map.1 (List.mem_of_getElem? (nthQ_some hi))
  rw [← e]
  exact short_sz (List.all_eq_true.1 h _ hx) (ok _ hx)
/-- The ends of the span of two numbers. -/
def spLo (n1 d1 n2 d2 : Int) : Rat := mnQ (fracQ n1 d1) (fracQ n2 d2)
def spHi (n1 d1 n2 d2 : Int) : Rat := mxQ (fracQ n1 d1) (fracQ n2 d2)
theorem sp_sz {n1 d1 n2 d2 : Int} (h : [(n1, d1), (n2, d2)].all shortF = true) (o1 : DOk (n1, d1)) (o2 : DOk (n2, d2)) : SzQ 1 (spLo n1 d1 n2 d2) ∧ SzQ 1 (spHi n1 d1 n2 d2) :=
  ⟨mnQ_sz (short_sz (short2 h).1 o1) (short_sz (short2 h).2 o2), mxQ_sz (short_sz (short2 h).1 o1) (short_sz (short2 h).2 o2)⟩
theorem l7_span_ {n1 d1 n2 d2 : Int} {lo hi : Rat} (w : World) (h : [(n1, d1), (n2, d2)].all shortF = true) (o1 : DOk (n1, d1)) (o2 : DOk (n2, d2)) (hlo : spLo n1 d1 n2 d2 = lo) (hhi : spHi n1 d1 n2 d2 = hi) :
    Calls Tryz.prog 31 #[.agg #[.int .i64 n1, .int .i64 d1, .int .i64 n2, .int .i64 d2]] w (Ret2 (fun w v => PV2 w v lo hi) (fun w v => RV2 w v lo hi) w) := by
  subst hlo hhi
  obtain ⟨hs1, hs2⟩ := short2 h
  obtain ⟨a1, a2, a3, a4⟩ := o1
  obtain ⟨b1, b2, b3, b4⟩ := o2
  simp only [shortF, Bool.not_eq_true', Bool.or_eq_false_iff, decide_eq_false_iff_not] at hs1 hs2
  dsimp only at a1 a2 a3 a4 b1 b2 b3 b4
  exact l7_span n1 d1 n2 d2 w (by omega) (by omega) (by omega) (by omega)
end Go.Proofs.YtlfnapfnpkhggaaGreat
/-
  Law 07: same: the program's range is the reference's one.
-/
namespace Go.Proofs.YtlfnapfnpkhggaaGreat
open Go.RowKit Dg
attribute [local go_sem ↓] Go.wp_at_zero Go.wp_at_succ

set_option maxRecDepth 100000 in
set_option maxHeartbeats 4000000 in
theorem l7_same (vx vy : Value) (x y : Rat) (w : World) (hx : PV2 w vx x y) (hy : RV2 w vy x y) (sx : Mid x) (sy : Mid y) :
    Calls Tryz.prog 40 #[vx, vy] w (RetV w (.bool true)) := by
  obtain ⟨shxl, ahxl, nhxl, chxl, Ahxl, Nhxl, Chxl, shxh, ahxh, nhxh, chxh, Ahxh, Nhxh, Chxh, rfl, hxl, hxh⟩ := hx.shape
  obtain ⟨shyl, ahyl, nhyl, chyl, Ahyl, Nhyl, Chyl, shyh, ahyh, nhyh, chyh, Ahyh, Nhyh, Chyh, rfl, hyl, hyh⟩ := hy.shape
  clear hx hy
  have hs := Below.refl w.heap.size w
  go_enter Tryz.func40, Tryz.ntmps40
  go_upto_region 1 with fail
  refine Code.abs ?_
  intro w1 hW
  have hG : Gr [] w w1 := by rw [hW]; exact (Gr.refl _ _).alloc.alloc
  have hbw : Below w.heap.size w w1 := hG.below0 hs.size
  have hk : KeepD w w1 := hG.keep True.intro
  have sz_w1 : w.heap.size ≤ w.heap.size := hs.size
  have Blx : Bx w1 (w.heap.size) 86 #[.bool shxl, .slice ahxl nhxl chxl, .slice Ahxl Nhxl Chxl, .bool shxh, .slice ahxh nhxh chxh, .slice Ahxh Nhxh Chxh] := by rw [hW]; exact ((Bx.new0 _ _ _).alloc _)
  have Bly : Bx w1 (w.heap.size + 1) 88 #[.bool shyl, .slice ahyl nhyl chyl, .slice Ahyl Nhyl Chyl, .bool shyh, .slice ahyh nhyh chyh, .slice Ahyh Nhyh Chyh] := by rw [hW]; exact (Bx.new0 _ _ _)
  replace hs := hs.trans hbw
  replace hxl := hxl.keep hk
  replace hxh := hxh.keep hk
  replace hyl := hyl.keep hk
  replace hyh := hyh.keep hk
  clear hW hG hk hbw
  have hz_w1 : w.heap.size + 1 < w1.heap.size := Bly.lt
  have hb := bDrew w1
  replace hs := bStep hs hb
  replace Blx := Blx.mono hb
  replace Bly := Bly.mono hb
  replace hxl := hxl.mono hb
  replace hxh := hxh.mono hb
  replace hyl := hyl.mono hb
  replace hyh := hyh.mono hb
  clear hb
  have cx_0 : (w1.drew).cell? ⟨w.heap.size, 0, none⟩ = some (.bool shxl) := Blx.at 0 rfl
  have cx_1 : (w1.drew).cell? ⟨w.heap.size, 1, none⟩ = some (.slice ahxl nhxl chxl) := Blx.at 1 rfl
  have cx_2 : (w1.drew).cell? ⟨w.heap.size, 2, none⟩ = some (.slice Ahxl Nhxl Chxl) := Blx.at 2 rfl
  have cx_3 : (w1.drew).cell? ⟨w.heap.size, 3, none⟩ = some (.bool shxh) := Blx.at 3 rfl
  have cx_4 : (w1.drew).cell? ⟨w.heap.size, 4, none⟩ = some (.slice ahxh nhxh chxh) := Blx.at 4 rfl
  have cx_5 : (w1.drew).cell? ⟨w.heap.size, 5, none⟩ = some (.slice Ahxh Nhxh Chxh) := Blx.at 5 rfl
  have cy_0 : (w1.drew).cell? ⟨w.heap.size + 1, 0, none⟩ = some (.bool shyl) := Bly.at 0 rfl
  have cy_1 : (w1.drew).cell? ⟨w.heap.size + 1, 1, none⟩ = some (.slice ahyl nhyl chyl) := Bly.at 1 rfl
  have cy_2 : (w1.drew).cell? ⟨w.heap.size + 1, 2, none⟩ = some (.slice Ahyl Nhyl Chyl) := Bly.at 2 rfl
  have cy_3 : (w1.drew).cell? ⟨w.heap.size + 1, 3, none⟩ = some (.bool shyh) := Bly.at 3 rfl
  have cy_4 : (w1.drew).cell? ⟨w.heap.size + 1, 4, none⟩ = some (.slice ahyh nhyh chyh) := Bly.at 4 rfl
  have cy_5 : (w1.drew).cell? ⟨w.heap.size + 1, 5, none⟩ = some (.slice Ahyh Nhyh Chyh) := Bly.at 5 rfl
  go_region_held3 (fun w' => w'.cell? ⟨w.heap.size, 0, none⟩ = some (.bool shxl) ∧ w'.cell? ⟨w.heap.size, 1, none⟩ = some (.slice ahxl nhxl chxl) ∧ w'.cell? ⟨w.heap.size, 2, none⟩ = some (.slice Ahxl Nhxl Chxl) ∧ w'.cell? ⟨w.heap.size, 3, none⟩ = some (.bool shxh) ∧ w'.cell? ⟨w.heap.size, 4, none⟩ = some (.slice ahxh nhxh chxh) ∧ w'.cell? ⟨w.heap.size, 5, none⟩ = some (.slice Ahxh Nhxh Chxh) ∧ w'.cell? ⟨w.heap.size + 1, 0, none⟩ = some (.bool shyl) ∧ w'.cell? ⟨w.heap.size + 1, 1, none⟩ = some (.slice ahyl nhyl chyl) ∧ w'.cell? ⟨w.heap.size + 1, 2, none⟩ = some (.slice Ahyl Nhyl Chyl) ∧ w'.cell? ⟨w.heap.size + 1, 3, none⟩ = some (.bool shyh) ∧ w'.cell? ⟨w.heap.size + 1, 4, none⟩ = some (.slice ahyh nhyh chyh) ∧ w'.cell? ⟨w.heap.size + 1, 5, none⟩ = some (.slice Ahyh Nhyh Chyh))
    (first | exact ⟨cx_0, cx_1, cx_2, cx_3, cx_4, cx_5, cy_0, cy_1, cy_2, cy_3, cy_4, cy_5⟩ | exact ⟨cellA cx_0 _, cellA cx_1 _, cellA cx_2 _, cellA cx_3 _, cellA cx_4 _, cellA cx_5 _, cellA cy_0 _, cellA cy_1 _, cellA cy_2 _, cellA cy_3 _, cellA cy_4 _, cellA cy_5 _⟩ | go_keep)
    (first
      | (go_at_call 34; (with_reducible refine (p_Lo _ _ _ _ (PV2.mk hxl hxh)).mono ?_); rintro e w2 ⟨_, rfl, h1, hb⟩; obtain ⟨sh1, ah1, nh1, ch1, Ah1, Nh1, Ch1, rfl⟩ := h1.shape; replace hs := bStep hs hb; replace Blx := Blx.mono hb; replace Bly := Bly.mono hb; replace hxl := hxl.mono hb; replace hxh := hxh.mono hb; replace hyl := hyl.mono hb; replace hyh := hyh.mono hb; replace cx_0 := cellK cx_0 hb; replace cx_1 := cellK cx_1 hb; replace cx_2 := cellK cx_2 hb; replace cx_3 := cellK cx_3 hb; replace cx_4 := cellK cx_4 hb; replace cx_5 := cellK cx_5 hb; replace cy_0 := cellK cy_0 hb; replace cy_1 := cellK cy_1 hb; replace cy_2 := cellK cy_2 hb; replace cy_3 := cellK cy_3 hb; replace cy_4 := cellK cy_4 hb; replace cy_5 := cellK cy_5 hb; clear hb)
      | (go_at_call 16; (with_reducible refine (l7_is _ _ _ _ h1 hyl (SzQ.fit sx)).mono ?_); rintro e w3 ⟨rfl, hb⟩; replace hs := bStep hs hb; replace Blx := Blx.mono hb; replace Bly := Bly.mono hb; replace hxl := hxl.mono hb; replace hxh := hxh.mono hb; replace hyl := hyl.mono hb; replace hyh := hyh.mono hb; replace h1 := h1.mono hb; replace cx_0 := cellK cx_0 hb; replace cx_1 := cellK cx_1 hb; replace cx_2 := cellK cx_2 hb; replace cx_3 := cellK cx_3 hb; replace cx_4 := cellK cx_4 hb; replace cx_5 := cellK cx_5 hb; replace cy_0 := cellK cy_0 hb; replace cy_1 := cellK cy_1 hb; replace cy_2 := cellK cy_2 hb; replace cy_3 := cellK cy_3 hb; replace cy_4 := cellK cy_4 hb; replace cy_5 := cellK cy_5 hb; clear hb)
      | (go_at_call 113; (with_reducible refine (p_Hi _ _ _ _ (PV2.mk hxl hxh)).mono ?_); rintro e w4 ⟨_, rfl, h2, hb⟩; obtain ⟨sh2, ah2, nh2, ch2, Ah2, Nh2, Ch2, rfl⟩ := h2.shape; replace hs := bStep hs hb; replace Blx := Blx.mono hb; replace Bly := Bly.mono hb; replace hxl := hxl.mono hb; replace hxh := hxh.mono hb; replace hyl := hyl.mono hb; replace hyh := hyh.mono hb; replace h1 := h1.mono hb; replace cx_0 := cellK cx_0 hb; replace cx_1 := cellK cx_1 hb; replace cx_2 := cellK cx_2 hb; replace cx_3 := cellK cx_3 hb; replace cx_4 := cellK cx_4 hb; replace cx_5 := cellK cx_5 hb; replace cy_0 := cellK cy_0 hb; replace cy_1 := cellK cy_1 hb; replace cy_2 := cellK cy_2 hb; replace cy_3 := cellK cy_3 hb; replace cy_4 := cellK cy_4 hb; replace cy_5 := cellK cy_5 hb; clear hb)
      | (go_at_call 16; (with_reducible refine (l7_is _ _ _ _ h2 hyh (SzQ.fit sy)).mono ?_); rintro e w5 ⟨rfl, hb⟩; replace hs := bStep hs hb; replace Blx := Blx.mono hb; replace Bly := Bly.mono hb; replace hxl := hxl.mono hb; replace hxh := hxh.mono hb; replace hyl := hyl.mono hb; replace hyh := hyh.mono hb; replace h1 := h1.mono hb; replace h2 := h2.mono hb; replace cx_0 := cellK cx_0 hb; replace cx_1 := cellK cx_1 hb; replace cx_2 := cellK cx_2 hb; replace cx_3 := cellK cx_3 hb; replace cx_4 := cellK cx_4 hb; replace cx_5 := cellK cx_5 hb; replace cy_0 := cellK cy_0 hb; replace cy_1 := cellK cy_1 hb; replace cy_2 := cellK cy_2 hb; replace cy_3 := cellK cy_3 hb; replace cy_4 := cellK cy_4 hb; replace cy_5 := cellK cy_5 hb; clear hb))
  clear cx_0 cx_1 cx_2 cx_3 cx_4 cx_5 cy_0 cy_1 cy_2 cy_3 cy_4 cy_5
  go_wp2
  go_ret
  exact ⟨rfl, hs⟩
end Go.Proofs.YtlfnapfnpkhggaaGreat
