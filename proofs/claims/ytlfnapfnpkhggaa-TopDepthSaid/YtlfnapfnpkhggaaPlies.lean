/-
  scan.Plies: which plies have a depth.
-/
import Derived.Test.YtlfnapfnpkhggaaRangeP
import Derived.Test.YtlfnapfnpkhggaaPkScan
set_option linter.unusedSimpArgs false
set_option linter.unusedVariables false
namespace Go.Proofs.Ytlfnapfnpkhggaa
open Go.RowKit Dg
attribute [local go_sem ↓] Go.wp_at_zero Go.wp_at_succ

/-- The depth of the k-th boundary. -/
def topQ (L : List Rat) : Nat → Rat
  | 0 => 0
  | k + 1 => topQ L k + nthQ L k
theorem topQ_sz {L : List Rat} {K : Nat} (h : ∀ i, i < L.length → SzQ K (nthQ L i)) : ∀ k, k ≤ L.length → SzQ (k * (K + 1) + 1) (topQ L k)
  | 0, _ => szQ_zero.mono (by omega)
  | k + 1, hk => (SzQ.add (topQ_sz h k (by omega)) (h k (by omega))).mono (by rw [Nat.succ_mul]; omega)
theorem topQ_mid {L : List Rat} (h : ∀ i, i < L.length → SzQ 50000 (nthQ L i)) (hl : L.length ≤ 12) (k : Nat) (hk : k ≤ L.length) : SzQ 700000 (topQ L k) := (topQ_sz h k hk).mono (by omega)
theorem nthQ_pos {L : List Rat} (h : allPos L = true) (i : Nat) (hi : i < L.length) : 0 < nthQ L i := by
  have := List.all_eq_true.1 h _ (List.mem_of_getElem? (nthQ_some hi))
  simpa using this
theorem le_add_pos {x y : Rat} (h : 0 < y) : x ≤ x + y := by
  have := (Rat.add_le_add_left (c := x)).2 (Rat.le_of_lt h)
  rwa [Rat.add_zero] at this
/-- Does the i-th ply have a depth between lo and hi? -/
def hitB (L : List Rat) (lo hi : Rat) (i : Nat) : Bool := !decide (topQ L (i + 1) < lo) && !decide (hi < topQ L i)
/-- The first and the last one of the first k plies that have such a depth; -1: none. -/
def plF (L : List Rat) (lo hi : Rat) : Nat → Int
  | 0 => -1
  | k + 1 => if hitB L lo hi k = true then (if plF L lo hi k < 0 then (k : Int) else plF L lo hi k) else plF L lo hi k
def plL (L : List Rat) (lo hi : Rat) : Nat → Int
  | 0 => -1
  | k + 1 => if hitB L lo hi k = true then (k : Int) else plL L lo hi k
/-- What Plies hands back. -/
def plR (L : List Rat) (lo hi : Rat) : Value := .tuple #[.int .i64 (if plF L lo hi L.length < 0 then 0 else plF L lo hi L.length), .int .i64 (if plF L lo hi L.length < 0 then 0 else plL L lo hi L.length), .int .i64 (if plF L lo hi L.length < 0 then 5 else 0)]
theorem plR_no {L : List Rat} {lo hi : Rat} (h : plF L lo hi L.length < 0) : plR L lo hi = .tuple #[.int .i64 0, .int .i64 0, .int .i64 5] := by unfold plR; rw [if_pos h, if_pos h, if_pos h]
theorem plR_yes {L : List Rat} {lo hi : Rat} (h : ¬ plF L lo hi L.length < 0) : plR L lo hi = .tuple #[.int .i64 (plF L lo hi L.length), .int .i64 (plL L lo hi L.length), .int .i64 0] := by unfold plR; rw [if_neg h, if_neg h, if_neg h]
theorem plF_bd (L : List Rat) (lo hi : Rat) : ∀ k, -1 ≤ plF L lo hi k ∧ plF L lo hi k ≤ k
  | 0 => ⟨by show (-1 : Int) ≤ -1; omega, by show (-1 : Int) ≤ _; omega⟩
  | k + 1 => by
    have ih := plF_bd L lo hi k
    unfold plF
    split
    · split <;> omega
    · omega
theorem plL_bd (L : List Rat) (lo hi : Rat) : ∀ k, -1 ≤ plL L lo hi k ∧ plL L lo hi k ≤ k
  | 0 => ⟨by show (-1 : Int) ≤ -1; omega, by show (-1 : Int) ≤ _; omega⟩
  | k + 1 => by
    have ih := plL_bd L lo hi k
    unfold plL
    split <;> omega
theorem hitB_tt {L : List Rat} {lo hi : Rat} {i : Nat} (h1 : ¬ topQ L i + nthQ L i < lo) (h2 : ¬ hi < topQ L i) : hitB L lo hi i = true := by
  unfold hitB
  rw [decide_eq_false (show ¬ topQ L (i + 1) < lo from h1), decide_eq_false h2]
  rfl
theorem hitB_f1 {L : List Rat} {lo hi : Rat} {i : Nat} (h1 : topQ L i + nthQ L i < lo) : hitB L lo hi i = false := by
  unfold hitB
  rw [decide_eq_true (show topQ L (i + 1) < lo from h1)]
  rfl
theorem hitB_f2 {L : List Rat} {lo hi : Rat} {i : Nat} (h1 : ¬ topQ L i + nthQ L i < lo) (h2 : hi < topQ L i) : hitB L lo hi i = false := by
  unfold hitB
  rw [decide_eq_false (show ¬ topQ L (i + 1) < lo from h1), decide_eq_true h2]
  rfl
theorem plF_no {L : List Rat} {lo hi : Rat} {k : Nat} (h : hitB L lo hi k = false) : plF L lo hi (k + 1) = plF L lo hi k := by show (if _ then _ else _) = _; rw [h]; rfl
theorem plL_no {L : List Rat} {lo hi : Rat} {k : Nat} (h : hitB L lo hi k = false) : plL L lo hi (k + 1) = plL L lo hi k := by show (if _ then _ else _) = _; rw [h]; rfl
theorem plL_yes {L : List Rat} {lo hi : Rat} {k : Nat} (h : hitB L lo hi k = true) : plL L lo hi (k + 1) = k := by show (if _ then _ else _) = _; rw [h]; rfl
theorem plF_yes {L : List Rat} {lo hi : Rat} {k : Nat} (h : hitB L lo hi k = true) (h1 : plF L lo hi k < 0) : plF L lo hi (k + 1) = k := by show (if _ then _ else _) = _; rw [h, if_pos h1]; rfl
theorem plF_more {L : List Rat} {lo hi : Rat} {k : Nat} (h : hitB L lo hi k = true) (h1 : ¬ plF L lo hi k < 0) : plF L lo hi (k + 1) = plF L lo hi k := by show (if _ then _ else _) = _; rw [h, if_neg h1]; rfl
theorem sc_above_true {v : Value} {l : List Rat} {w : World} (h : allPos l = true) (hl : Rows 3 36 PC w v l) : Calls Try.prog 38 #[v] w (RetV w (.bool true)) := h ▸ sc_above v l w hl
theorem sc_above_false {v : Value} {l : List Rat} {w : World} (h : allPos l = false) (hl : Rows 3 36 PC w v l) : Calls Try.prog 38 #[v] w (RetV w (.bool false)) := h ▸ sc_above v l w hl

set_option maxRecDepth 100000 in
set_option maxHeartbeats 16000000 in
theorem sc_Plies_ok (v vr : Value) (L : List Rat) (lo hi : Rat) (w : World) (hl : Rows 3 36 PC w v L) (h1 : 1 ≤ L.length) (h12 : L.length ≤ 12) (hap : allPos L = true) (hz : ∀ i, i < L.length → SzQ 50000 (nthQ L i))
    (hr : PV2 w vr lo hi) (slo : Mid lo) (shi : Mid hi) :
    Calls Try.prog 32 #[v, vr] w (RetV w (plR L lo hi)) := by
  obtain ⟨rb, ro, rc, rfl, hc1, hc2, -⟩ := hl.open_ (by omega)
  have hs := Below.refl w.heap.size w
  have HL := Lib.hid hl
  have HZ := Lib.hid hz
  have HAP := Lib.hid hap
  have HTM := Lib.hid (topQ_mid hz h12)
  clear hl hz hap
  obtain ⟨shlo, ahlo, nhlo, chlo, Ahlo, Nhlo, Chlo, shhi, ahhi, nhhi, chhi, Ahhi, Nhhi, Chhi, rfl, hlo, hhi⟩ := hr.shape
  clear hr
  go_enter Try.func32, Try.ntmps32
  have q1 : ¬ (L.length < 1) := by omega
  have q1d : ((L.length : Int) < 1) = False := eq_false (by omega)
  have q2 : ¬ (12 < L.length) := by omega
  have q2d : ((12 : Int) < (L.length : Int)) = False := eq_false (by omega)
  go_wp2_with fail
  refine Calls.abs ?_
  intro w1 hW
  have hG : Gr [] w w1 := by rw [hW]; exact (Gr.refl _ _).alloc
  have hbw : Below w.heap.size w w1 := hG.below0 hs.size
  have hk : KeepD w w1 := hG.keep True.intro
  have sz_w1 : w.heap.size ≤ w.heap.size := hs.size
  have Bldepth : Bx w1 (w.heap.size) 72 #[.bool shlo, .slice ahlo nhlo chlo, .slice Ahlo Nhlo Chlo, .bool shhi, .slice ahhi nhhi chhi, .slice Ahhi Nhhi Chhi] := by rw [hW]; exact (Bx.new0 _ _ _)
  replace hs := hs.trans hbw
  replace hlo := hlo.keep hk
  replace hhi := hhi.keep hk
  clear hW hG hk hbw
  have hz_w1 : w.heap.size < w1.heap.size := Bldepth.lt
  refine (sc_above_true HAP.out (HL.out.mono PC.kept hs)).mono ?_
  rintro e w2 ⟨rfl, hb⟩
  replace hs := bStep hs hb
  replace Bldepth := Bldepth.mono hb
  replace hlo := hlo.mono hb
  replace hhi := hhi.mono hb
  clear hb
  go_wp2
  refine Code.abs ?_
  intro w3 hW
  have hG : Gr [] w2 w3 := by rw [hW]; exact (Gr.refl _ _).alloc
  have hbw : Below w.heap.size w2 w3 := hG.below0 hs.size
  have hk : KeepD w2 w3 := hG.keep True.intro
  have sz_w3 : w.heap.size ≤ w2.heap.size := hs.size
  have ndepth_w3 : w.heap.size < w2.heap.size := Bldepth.lt
  have Blat : Bx w3 (w2.heap.size) 36 #[.bool false, .slice none 0 0, .slice none 0 0] := by rw [hW]; exact (Bx.new0 _ _ _)
  replace hs := hs.trans hbw
  replace Bldepth := hG.bx Bldepth notMem0
  replace hlo := hlo.keep hk
  replace hhi := hhi.keep hk
  clear hW hG hk hbw
  have hz_w3 : w2.heap.size < w3.heap.size := Blat.lt
  go_loopw [7, 8, 28] (fun s7 s8 s28 wq => ∃ k : Nat, k ≤ L.length ∧ s28 = .int .i64 k ∧ s7 = .int .i64 (plF L lo hi k) ∧ s8 = .int .i64 (plL L lo hi k) ∧ Below w.heap.size w wq ∧ Bx wq (w.heap.size) 72 #[.bool shlo, .slice ahlo nhlo chlo, .slice Ahlo Nhlo Chlo, .bool shhi, .slice ahhi nhhi chhi, .slice Ahhi Nhhi Chhi] ∧ PV wq (.agg #[.bool shlo, .slice ahlo nhlo chlo, .slice Ahlo Nhlo Chlo]) (lo) ∧ PV wq (.agg #[.bool shhi, .slice ahhi nhhi chhi, .slice Ahhi Nhhi Chhi]) (hi) ∧ BoxP wq (w2.heap.size) (topQ L k)) (fun s7 s8 s28 _ => L.length - (intOf s28).toNat)
  case atStart => exact ⟨0, Nat.zero_le _, rfl, rfl, rfl, hs, Bldepth, hlo, hhi, ⟨_, _, _, _, _, _, _, Blat, (PV.zero _)⟩⟩
  case round =>
    clear Bldepth Blat hlo hhi hs
    obtain ⟨k, k_le, rfl, rfl, rfl, hs, Bldepth, hlo, hhi, ⟨sh3, ah3, nh3, ch3, Ah3, Nh3, Ch3, Blat, h3⟩⟩ := hrel
    obtain ⟨fb1, fb2⟩ := plF_bd L lo hi k
    obtain ⟨lb1, lb2⟩ := plL_bd L lo hi k
    obtain ⟨fv, HFV⟩ : ∃ x, x = plF L lo hi k := ⟨_, rfl⟩
    obtain ⟨lv, HLV⟩ : ∃ x, x = plL L lo hi k := ⟨_, rfl⟩
    rw [← HFV, ← HLV]
    rw [← HFV] at fb1 fb2
    rw [← HLV] at lb1 lb2
    replace HFV := Lib.hid HFV.symm
    replace HLV := Lib.hid HLV.symm
    by_cases q4 : k < L.length
    · have q4d : ((k : Int) < (L.length : Int)) = True := eq_true (by omega)
      obtain ⟨ge5, ae5, ne5, ce5, Ae5, Ne5, De5, Ee50, Ee51, Ee52, he5, le5⟩ := rowP_at (HL.out.mono PC.kept hs) (show k < L.length by omega)
      have cat_0 : wr.cell? ⟨w2.heap.size, 0, none⟩ = some (.bool sh3) := Blat.at 0 rfl
      have cat_1 : wr.cell? ⟨w2.heap.size, 1, none⟩ = some (.slice ah3 nh3 ch3) := Blat.at 1 rfl
      have cat_2 : wr.cell? ⟨w2.heap.size, 2, none⟩ = some (.slice Ah3 Nh3 Ch3) := Blat.at 2 rfl
      have Lat : w2.heap.size < wr.heap.size := Blat.lt
      go_wp2_with fail
      clear cat_0 cat_1 cat_2 Lat le5 Ee50 Ee51 Ee52
      refine Calls.abs ?_
      intro w24 hW
      have hG : Gr [] wr w24 := by rw [hW]; exact (Gr.refl _ _).alloc
      have hbw : Below w.heap.size wr w24 := hG.below0 hs.size
      have hk : KeepD wr w24 := hG.keep True.intro
      have sz_w24 : w.heap.size ≤ wr.heap.size := hs.size
      have ndepth_w24 : w.heap.size < wr.heap.size := Bldepth.lt
      have nat_w24 : w2.heap.size < wr.heap.size := Blat.lt
      have Blx : Bx w24 (wr.heap.size) 36 #[.bool ge5, .slice ae5 ne5 ce5, .slice Ae5 Ne5 De5] := by rw [hW]; exact (Bx.new0 _ _ _)
      replace hs := hs.trans hbw
      replace Bldepth := hG.bx Bldepth notMem0
      replace Blat := hG.bx Blat notMem0
      replace hlo := hlo.keep hk
      replace hhi := hhi.keep hk
      replace h3 := h3.keep hk
      replace he5 := he5.keep hk
      clear hW hG hk hbw
      have hz_w24 : wr.heap.size < w24.heap.size := Blx.lt
      refine (pAdd h3 he5 (SzQ.fit (HTM.out k (by omega))) (SzQ.fit (HZ.out k (by omega)))).mono ?_
      rintro e w25 ⟨_, rfl, h6, hb⟩
      obtain ⟨sh6, ah6, nh6, ch6, Ah6, Nh6, Ch6, rfl⟩ := h6.shape
      replace hs := bStep hs hb
      replace Bldepth := Bldepth.mono hb
      replace Blat := Blat.mono hb
      replace Blx := Blx.mono hb
      replace hlo := hlo.mono hb
      replace hhi := hhi.mono hb
      replace h3 := h3.mono hb
      replace he5 := he5.mono hb
      clear hb
      have cat_0 : w25.cell? ⟨w2.heap.size, 0, none⟩ = some (.bool sh3) := Blat.at 0 rfl
      have cat_1 : w25.cell? ⟨w2.heap.size, 1, none⟩ = some (.slice ah3 nh3 ch3) := Blat.at 1 rfl
      have cat_2 : w25.cell? ⟨w2.heap.size, 2, none⟩ = some (.slice Ah3 Nh3 Ch3) := Blat.at 2 rfl
      have Lat : w2.heap.size < w25.heap.size := Blat.lt
      go_wp2_with fail
      clear cat_0 cat_1 cat_2 Lat
      refine Calls.abs ?_
      intro w26 hW
      have hG : Gr [] w25 w26 := by rw [hW]; exact (Gr.refl _ _).alloc
      have hbw : Below w.heap.size w25 w26 := hG.below0 hs.size
      have hk : KeepD w25 w26 := hG.keep True.intro
      have sz_w26 : w.heap.size ≤ w25.heap.size := hs.size
      have ndepth_w26 : w.heap.size < w25.heap.size := Bldepth.lt
      have nat_w26 : w2.heap.size < w25.heap.size := Blat.lt
      have nx_w26 : wr.heap.size < w25.heap.size := Blx.lt
      have Blnext : Bx w26 (w25.heap.size) 36 #[.bool sh6, .slice ah6 nh6 ch6, .slice Ah6 Nh6 Ch6] := by rw [hW]; exact (Bx.new0 _ _ _)
      replace hs := hs.trans hbw
      replace Bldepth := hG.bx Bldepth notMem0
      replace Blat := hG.bx Blat notMem0
      replace Blx := hG.bx Blx notMem0
      replace hlo := hlo.keep hk
      replace hhi := hhi.keep hk
      replace h3 := h3.keep hk
      replace he5 := he5.keep hk
      replace h6 := h6.keep hk
      clear hW hG hk hbw
      have hz_w26 : w25.heap.size < w26.heap.size := Blnext.lt
      refine (p_Make_le _ _ _ _ _ h3 (SzQ.mid (HTM.out k (by omega))) h6 (SzQ.mid (SzQ.add (HTM.out k (by omega)) (HZ.out k (by omega)))) (le_add_pos (nthQ_pos HAP.out k (by omega)))).mono ?_
      rintro e w27 ⟨_, _, rfl, h7, rfl, hb⟩
      obtain ⟨sh7a, ah7a, nh7a, ch7a, Ah7a, Nh7a, Ch7a, sh7b, ah7b, nh7b, ch7b, Ah7b, Nh7b, Ch7b, rfl, h7a, h7b⟩ := h7.shape
      replace hs := bStep hs hb
      replace Bldepth := Bldepth.mono hb
      replace Blat := Blat.mono hb
      replace Blx := Blx.mono hb
      replace Blnext := Blnext.mono hb
      replace hlo := hlo.mono hb
      replace hhi := hhi.mono hb
      replace h3 := h3.mono hb
      replace he5 := he5.mono hb
      replace h6 := h6.mono hb
      clear hb
      have cdepth_0 : w27.cell? ⟨w.heap.size, 0, none⟩ = some (.bool shlo) := Bldepth.at 0 rfl
      have cdepth_1 : w27.cell? ⟨w.heap.size, 1, none⟩ = some (.slice ahlo nhlo chlo) := Bldepth.at 1 rfl
      have cdepth_2 : w27.cell? ⟨w.heap.size, 2, none⟩ = some (.slice Ahlo Nhlo Chlo) := Bldepth.at 2 rfl
      have cdepth_3 : w27.cell? ⟨w.heap.size, 3, none⟩ = some (.bool shhi) := Bldepth.at 3 rfl
      have cdepth_4 : w27.cell? ⟨w.heap.size, 4, none⟩ = some (.slice ahhi nhhi chhi) := Bldepth.at 4 rfl
      have cdepth_5 : w27.cell? ⟨w.heap.size, 5, none⟩ = some (.slice Ahhi Nhhi Chhi) := Bldepth.at 5 rfl
      have Ldepth : w.heap.size < w27.heap.size := Bldepth.lt
      go_wp2_with fail
      clear cdepth_0 cdepth_1 cdepth_2 cdepth_3 cdepth_4 cdepth_5 Ldepth
      refine Calls.abs ?_
      intro w28 hW
      have hG : Gr [] w27 w28 := by rw [hW]; exact (Gr.refl _ _).alloc
      have hbw : Below w.heap.size w27 w28 := hG.below0 hs.size
      have hk : KeepD w27 w28 := hG.keep True.intro
      have sz_w28 : w.heap.size ≤ w27.heap.size := hs.size
      have ndepth_w28 : w.heap.size < w27.heap.size := Bldepth.lt
      have nat_w28 : w2.heap.size < w27.heap.size := Blat.lt
      have nx_w28 : wr.heap.size < w27.heap.size := Blx.lt
      have nnext_w28 : w25.heap.size < w27.heap.size := Blnext.lt
      have Blply : Bx w28 (w27.heap.size) 72 #[.bool sh7a, .slice ah7a nh7a ch7a, .slice Ah7a Nh7a Ch7a, .bool sh7b, .slice ah7b nh7b ch7b, .slice Ah7b Nh7b Ch7b] := by rw [hW]; exact (Bx.new0 _ _ _)
      replace hs := hs.trans hbw
      replace Bldepth := hG.bx Bldepth notMem0
      replace Blat := hG.bx Blat notMem0
      replace Blx := hG.bx Blx notMem0
      replace Blnext := hG.bx Blnext notMem0
      replace hlo := hlo.keep hk
      replace hhi := hhi.keep hk
      replace h3 := h3.keep hk
      replace he5 := he5.keep hk
      replace h6 := h6.keep hk
      replace h7a := h7a.keep hk
      replace h7b := h7b.keep hk
      clear hW hG hk hbw
      have hz_w28 : w27.heap.size < w28.heap.size := Blply.lt
      refine (p_Before _ _ _ _ _ _ _ (PV2.mk h7a h7b) (SzQ.mid (HTM.out k (by omega))) (SzQ.mid (SzQ.add (HTM.out k (by omega)) (HZ.out k (by omega)))) (PV2.mk hlo hhi) (SzQ.mid slo) (SzQ.mid shi) rfl).mono ?_
      rintro e w29 ⟨rfl, hb⟩
      replace hs := bStep hs hb
      replace Bldepth := Bldepth.mono hb
      replace Blat := Blat.mono hb
      replace Blx := Blx.mono hb
      replace Blnext := Blnext.mono hb
      replace Blply := Blply.mono hb
      replace hlo := hlo.mono hb
      replace hhi := hhi.mono hb
      replace h3 := h3.mono hb
      replace he5 := he5.mono hb
      replace h6 := h6.mono hb
      replace h7a := h7a.mono hb
      replace h7b := h7b.mono hb
      clear hb
      obtain ⟨b8, Hb8⟩ : ∃ b : Bool, b = decide (topQ L k + nthQ L k < lo) := ⟨_, rfl⟩
      rw [← Hb8]
      replace Hb8 := Lib.hid Hb8
      by_cases q9 : topQ L k + nthQ L k < lo
      · obtain rfl : b8 = true := by rw [Hb8.out]; exact decide_eq_true q9
        have q9H := Lib.hid q9
        clear q9
        have cnext_0 : w29.cell? ⟨w25.heap.size, 0, none⟩ = some (.bool sh6) := Blnext.at 0 rfl
        have cnext_1 : w29.cell? ⟨w25.heap.size, 1, none⟩ = some (.slice ah6 nh6 ch6) := Blnext.at 1 rfl
        have cnext_2 : w29.cell? ⟨w25.heap.size, 2, none⟩ = some (.slice Ah6 Nh6 Ch6) := Blnext.at 2 rfl
        have Lnext : w25.heap.size < w29.heap.size := Blnext.lt
        have cat_0 : w29.cell? ⟨w2.heap.size, 0, none⟩ = some (.bool sh3) := Blat.at 0 rfl
        have cat_1 : w29.cell? ⟨w2.heap.size, 1, none⟩ = some (.slice ah3 nh3 ch3) := Blat.at 1 rfl
        have cat_2 : w29.cell? ⟨w2.heap.size, 2, none⟩ = some (.slice Ah3 Nh3 Ch3) := Blat.at 2 rfl
        have fat := Blat.free
        have Lat : w2.heap.size < w29.heap.size := Blat.lt
        go_upto_region 17 with fail
        clear cnext_0 cnext_1 cnext_2 cat_0 cat_1 cat_2 fat Lnext Lat
        refine Code.abs ?_
        intro w30 hW
        have hG : Gr [w2.heap.size] w29 w30 := by rw [hW]; exact (Gr.refl _ _).set.set.set
        have hsz := hs.size
        have lat := Blat.lt
        have hbw : Below w.heap.size w29 w30 := hG.below1 hs.size (by first | omega | assumption)
        have hk : KeepD w29 w30 := hG.keep ⟨⟨_, Blat.ty, by decide⟩, True.intro⟩
        have Bl1at : Bx w30 (w2.heap.size) 36 #[.bool sh6, .slice ah6 nh6 ch6, .slice Ah6 Nh6 Ch6] := by rw [hW]; exact Blat.set3
        replace hs := hs.trans hbw
        replace Bldepth := hG.bx Bldepth (notMem1 (by omega))
        replace Blx := hG.bx Blx (notMem1 (by omega))
        replace Blnext := hG.bx Blnext (notMem1 (by omega))
        replace Blply := hG.bx Blply (notMem1 (by omega))
        replace Blat := Bl1at
        clear Bl1at
        replace hlo := hlo.keep hk
        replace hhi := hhi.keep hk
        replace h3 := h3.keep hk
        replace he5 := he5.keep hk
        replace h6 := h6.keep hk
        replace h7a := h7a.keep hk
        replace h7b := h7b.keep hk
        clear hW hG hk hbw hsz lat
        go_wp2
        go_roundw
        case rel => exact ⟨k + 1, by omega, by go_num, by rw [plF_no (hitB_f1 q9H.out), HFV.out], by rw [plL_no (hitB_f1 q9H.out), HLV.out], hs, Bldepth, hlo, hhi, ⟨_, _, _, _, _, _, _, Blat, h6.of_eq rfl⟩⟩
        all_goals first | (simp [intOf]; done) | (simp [intOf]; omega)
      · obtain rfl : b8 = false := by rw [Hb8.out]; exact decide_eq_false q9
        have q9H := Lib.hid q9
        clear q9
        have cdepth_0 : w29.cell? ⟨w.heap.size, 0, none⟩ = some (.bool shlo) := Bldepth.at 0 rfl
        have cdepth_1 : w29.cell? ⟨w.heap.size, 1, none⟩ = some (.slice ahlo nhlo chlo) := Bldepth.at 1 rfl
        have cdepth_2 : w29.cell? ⟨w.heap.size, 2, none⟩ = some (.slice Ahlo Nhlo Chlo) := Bldepth.at 2 rfl
        have cdepth_3 : w29.cell? ⟨w.heap.size, 3, none⟩ = some (.bool shhi) := Bldepth.at 3 rfl
        have cdepth_4 : w29.cell? ⟨w.heap.size, 4, none⟩ = some (.slice ahhi nhhi chhi) := Bldepth.at 4 rfl
        have cdepth_5 : w29.cell? ⟨w.heap.size, 5, none⟩ = some (.slice Ahhi Nhhi Chhi) := Bldepth.at 5 rfl
        have Ldepth : w.heap.size < w29.heap.size := Bldepth.lt
        have cply_0 : w29.cell? ⟨w27.heap.size, 0, none⟩ = some (.bool sh7a) := Blply.at 0 rfl
        have cply_1 : w29.cell? ⟨w27.heap.size, 1, none⟩ = some (.slice ah7a nh7a ch7a) := Blply.at 1 rfl
        have cply_2 : w29.cell? ⟨w27.heap.size, 2, none⟩ = some (.slice Ah7a Nh7a Ch7a) := Blply.at 2 rfl
        have cply_3 : w29.cell? ⟨w27.heap.size, 3, none⟩ = some (.bool sh7b) := Blply.at 3 rfl
        have cply_4 : w29.cell? ⟨w27.heap.size, 4, none⟩ = some (.slice ah7b nh7b ch7b) := Blply.at 4 rfl
        have cply_5 : w29.cell? ⟨w27.heap.size, 5, none⟩ = some (.slice Ah7b Nh7b Ch7b) := Blply.at 5 rfl
        have Lply : w27.heap.size < w29.heap.size := Blply.lt
        go_wp2_with fail
        clear cdepth_0 cdepth_1 cdepth_2 cdepth_3 cdepth_4 cdepth_5 cply_0 cply_1 cply_2 cply_3 cply_4 cply_5 Ldepth Lply
        refine (p_Before _ _ _ _ _ _ _ (PV2.mk hlo hhi) (SzQ.mid slo) (SzQ.mid shi) (PV2.mk h7a h7b) (SzQ.mid (HTM.out k (by omega))) (SzQ.mid (SzQ.add (HTM.out k (by omega)) (HZ.out k (by omega)))) rfl).mono ?_
        rintro e w30 ⟨rfl, hb⟩
        replace hs := bStep hs hb
        replace Bldepth := Bldepth.mono hb
        replace Blat := Blat.mono hb
        replace Blx := Blx.mono hb
        replace Blnext := Blnext.mono hb
        replace Blply := Blply.mono hb
        replace hlo := hlo.mono hb
        replace hhi := hhi.mono hb
        replace h3 := h3.mono hb
        replace he5 := he5.mono hb
        replace h6 := h6.mono hb
        replace h7a := h7a.mono hb
        replace h7b := h7b.mono hb
        clear hb
        obtain ⟨b10, Hb10⟩ : ∃ b : Bool, b = decide (hi < topQ L k) := ⟨_, rfl⟩
        rw [← Hb10]
        replace Hb10 := Lib.hid Hb10
        by_cases q11 : hi < topQ L k
        · obtain rfl : b10 = true := by rw [Hb10.out]; exact decide_eq_true q11
          have q11H := Lib.hid q11
          clear q11
          have cnext_0 : w30.cell? ⟨w25.heap.size, 0, none⟩ = some (.bool sh6) := Blnext.at 0 rfl
          have cnext_1 : w30.cell? ⟨w25.heap.size, 1, none⟩ = some (.slice ah6 nh6 ch6) := Blnext.at 1 rfl
          have cnext_2 : w30.cell? ⟨w25.heap.size, 2, none⟩ = some (.slice Ah6 Nh6 Ch6) := Blnext.at 2 rfl
          have Lnext : w25.heap.size < w30.heap.size := Blnext.lt
          have cat_0 : w30.cell? ⟨w2.heap.size, 0, none⟩ = some (.bool sh3) := Blat.at 0 rfl
          have cat_1 : w30.cell? ⟨w2.heap.size, 1, none⟩ = some (.slice ah3 nh3 ch3) := Blat.at 1 rfl
          have cat_2 : w30.cell? ⟨w2.heap.size, 2, none⟩ = some (.slice Ah3 Nh3 Ch3) := Blat.at 2 rfl
          have fat := Blat.free
          have Lat : w2.heap.size < w30.heap.size := Blat.lt
          go_upto_region 17 with fail
          clear cnext_0 cnext_1 cnext_2 cat_0 cat_1 cat_2 fat Lnext Lat
          refine Code.abs ?_
          intro w31 hW
          have hG : Gr [w2.heap.size] w30 w31 := by rw [hW]; exact (Gr.refl _ _).set.set.set
          have hsz := hs.size
          have lat := Blat.lt
          have hbw : Below w.heap.size w30 w31 := hG.below1 hs.size (by first | omega | assumption)
          have hk : KeepD w30 w31 := hG.keep ⟨⟨_, Blat.ty, by decide⟩, True.intro⟩
          have Bl1at : Bx w31 (w2.heap.size) 36 #[.bool sh6, .slice ah6 nh6 ch6, .slice Ah6 Nh6 Ch6] := by rw [hW]; exact Blat.set3
          replace hs := hs.trans hbw
          replace Bldepth := hG.bx Bldepth (notMem1 (by omega))
          replace Blx := hG.bx Blx (notMem1 (by omega))
          replace Blnext := hG.bx Blnext (notMem1 (by omega))
          replace Blply := hG.bx Blply (notMem1 (by omega))
          replace Blat := Bl1at
          clear Bl1at
          replace hlo := hlo.keep hk
          replace hhi := hhi.keep hk
          replace h3 := h3.keep hk
          replace he5 := he5.keep hk
          replace h6 := h6.keep hk
          replace h7a := h7a.keep hk
          replace h7b := h7b.keep hk
          clear hW hG hk hbw hsz lat
          go_wp2
          go_roundw
          case rel => exact ⟨k + 1, by omega, by go_num, by rw [plF_no (hitB_f2 q9H.out q11H.out), HFV.out], by rw [plL_no (hitB_f2 q9H.out q11H.out), HLV.out], hs, Bldepth, hlo, hhi, ⟨_, _, _, _, _, _, _, Blat, h6.of_eq rfl⟩⟩
          all_goals first | (simp [intOf]; done) | (simp [intOf]; omega)
        · obtain rfl : b10 = false := by rw [Hb10.out]; exact decide_eq_false q11
          have q11H := Lib.hid q11
          clear q11
          by_cases q12 : fv < 0
          · have q12d : (fv < 0) = True := eq_true (by omega)
            have cnext_0 : w30.cell? ⟨w25.heap.size, 0, none⟩ = some (.bool sh6) := Blnext.at 0 rfl
            have cnext_1 : w30.cell? ⟨w25.heap.size, 1, none⟩ = some (.slice ah6 nh6 ch6) := Blnext.at 1 rfl
            have cnext_2 : w30.cell? ⟨w25.heap.size, 2, none⟩ = some (.slice Ah6 Nh6 Ch6) := Blnext.at 2 rfl
            have Lnext : w25.heap.size < w30.heap.size := Blnext.lt
            have cat_0 : w30.cell? ⟨w2.heap.size, 0, none⟩ = some (.bool sh3) := Blat.at 0 rfl
            have cat_1 : w30.cell? ⟨w2.heap.size, 1, none⟩ = some (.slice ah3 nh3 ch3) := Blat.at 1 rfl
            have cat_2 : w30.cell? ⟨w2.heap.size, 2, none⟩ = some (.slice Ah3 Nh3 Ch3) := Blat.at 2 rfl
            have fat := Blat.free
            have Lat : w2.heap.size < w30.heap.size := Blat.lt
            go_upto_region 17 with fail
            clear cnext_0 cnext_1 cnext_2 cat_0 cat_1 cat_2 fat Lnext Lat
            refine Code.abs ?_
            intro w31 hW
            have hG : Gr [w2.heap.size] w30 w31 := by rw [hW]; exact (Gr.refl _ _).set.set.set
            have hsz := hs.size
            have lat := Blat.lt
            have hbw : Below w.heap.size w30 w31 := hG.below1 hs.size (by first | omega | assumption)
            have hk : KeepD w30 w31 := hG.keep ⟨⟨_, Blat.ty, by decide⟩, True.intro⟩
            have Bl1at : Bx w31 (w2.heap.size) 36 #[.bool sh6, .slice ah6 nh6 ch6, .slice Ah6 Nh6 Ch6] := by rw [hW]; exact Blat.set3
            replace hs := hs.trans hbw
            replace Bldepth := hG.bx Bldepth (notMem1 (by omega))
            replace Blx := hG.bx Blx (notMem1 (by omega))
            replace Blnext := hG.bx Blnext (notMem1 (by omega))
            replace Blply := hG.bx Blply (notMem1 (by omega))
            replace Blat := Bl1at
            clear Bl1at
            replace hlo := hlo.keep hk
            replace hhi := hhi.keep hk
            replace h3 := h3.keep hk
            replace he5 := he5.keep hk
            replace h6 := h6.keep hk
            replace h7a := h7a.keep hk
            replace h7b := h7b.keep hk
            clear hW hG hk hbw hsz lat
            go_wp2
            go_roundw
            case rel => exact ⟨k + 1, by omega, by go_num, by rw [plF_yes (hitB_tt q9H.out q11H.out) (by rw [HFV.out]; omega)], by rw [plL_yes (hitB_tt q9H.out q11H.out)], hs, Bldepth, hlo, hhi, ⟨_, _, _, _, _, _, _, Blat, h6.of_eq rfl⟩⟩
            all_goals first | (simp [intOf]; done) | (simp [intOf]; omega)
          · have q12d : (fv < 0) = False := eq_false (by omega)
            have cnext_0 : w30.cell? ⟨w25.heap.size, 0, none⟩ = some (.bool sh6) := Blnext.at 0 rfl
            have cnext_1 : w30.cell? ⟨w25.heap.size, 1, none⟩ = some (.slice ah6 nh6 ch6) := Blnext.at 1 rfl
            have cnext_2 : w30.cell? ⟨w25.heap.size, 2, none⟩ = some (.slice Ah6 Nh6 Ch6) := Blnext.at 2 rfl
            have Lnext : w25.heap.size < w30.heap.size := Blnext.lt
            have cat_0 : w30.cell? ⟨w2.heap.size, 0, none⟩ = some (.bool sh3) := Blat.at 0 rfl
            have cat_1 : w30.cell? ⟨w2.heap.size, 1, none⟩ = some (.slice ah3 nh3 ch3) := Blat.at 1 rfl
            have cat_2 : w30.cell? ⟨w2.heap.size, 2, none⟩ = some (.slice Ah3 Nh3 Ch3) := Blat.at 2 rfl
            have fat := Blat.free
            have Lat : w2.heap.size < w30.heap.size := Blat.lt
            go_upto_region 17 with fail
            clear cnext_0 cnext_1 cnext_2 cat_0 cat_1 cat_2 fat Lnext Lat
            refine Code.abs ?_
            intro w31 hW
            have hG : Gr [w2.heap.size] w30 w31 := by rw [hW]; exact (Gr.refl _ _).set.set.set
            have hsz := hs.size
            have lat := Blat.lt
            have hbw : Below w.heap.size w30 w31 := hG.below1 hs.size (by first | omega | assumption)
            have hk : KeepD w30 w31 := hG.keep ⟨⟨_, Blat.ty, by decide⟩, True.intro⟩
            have Bl1at : Bx w31 (w2.heap.size) 36 #[.bool sh6, .slice ah6 nh6 ch6, .slice Ah6 Nh6 Ch6] := by rw [hW]; exact Blat.set3
            replace hs := hs.trans hbw
            replace Bldepth := hG.bx Bldepth (notMem1 (by omega))
            replace Blx := hG.bx Blx (notMem1 (by omega))
            replace Blnext := hG.bx Blnext (notMem1 (by omega))
            replace Blply := hG.bx Blply (notMem1 (by omega))
            replace Blat := Bl1at
            clear Bl1at
            replace hlo := hlo.keep hk
            replace hhi := hhi.keep hk
            replace h3 := h3.keep hk
            replace he5 := he5.keep hk
            replace h6 := h6.keep hk
            replace h7a := h7a.keep hk
            replace h7b := h7b.keep hk
            clear hW hG hk hbw hsz lat
            go_wp2
            go_roundw
            case rel => exact ⟨k + 1, by omega, by go_num, by rw [plF_more (hitB_tt q9H.out q11H.out) (by rw [HFV.out]; omega), HFV.out], by rw [plL_yes (hitB_tt q9H.out q11H.out)], hs, Bldepth, hlo, hhi, ⟨_, _, _, _, _, _, _, Blat, h6.of_eq rfl⟩⟩
            all_goals first | (simp [intOf]; done) | (simp [intOf]; omega)
    · have q4d : ((k : Int) < (L.length : Int)) = False := eq_false (by omega)
      by_cases q5 : fv < 0
      · have q5d : (fv < 0) = True := eq_true (by omega)
        obtain rfl : k = L.length := by omega
        go_wp2
        go_ret3
        exact ⟨by rw [plR_no (by rw [HFV.out]; omega)]; rfl, hs⟩
      · have q5d : (fv < 0) = False := eq_false (by omega)
        obtain rfl : k = L.length := by omega
        go_wp2
        go_ret3
        exact ⟨by rw [plR_yes (by rw [HFV.out]; omega), HFV.out, HLV.out]; rfl, hs⟩
set_option maxRecDepth 100000 in
set_option maxHeartbeats 4000000 in
theorem sc_Plies_none (v vr : Value) (L : List Rat) (lo hi : Rat) (w : World) (hl : Rows 3 36 PC w v L) (h0 : L.length = 0) (hr : PV2 w vr lo hi) :
    Calls Try.prog 32 #[v, vr] w (RetV w (.tuple #[.int .i64 0, .int .i64 0, .int .i64 4])) := by
  obtain ⟨ao, rc, rfl, hc1, hc2, hc3⟩ := hl.slice
  have hs := Below.refl w.heap.size w
  have HL := Lib.hid hl
  clear hl
  obtain ⟨shlo, ahlo, nhlo, chlo, Ahlo, Nhlo, Chlo, shhi, ahhi, nhhi, chhi, Ahhi, Nhhi, Chhi, rfl, hlo, hhi⟩ := hr.shape
  clear hr
  go_enter Try.func32, Try.ntmps32
  have q1 : L.length < 1 := by omega
  have q1d : ((L.length : Int) < 1) = True := eq_true (by omega)
  go_wp2
  refine bodyPost.abs ?_
  intro w1 hW
  have hG : Gr [] w w1 := by rw [hW]; exact (Gr.refl _ _).alloc
  have hbw : Below w.heap.size w w1 := hG.below0 hs.size
  have hk : KeepD w w1 := hG.keep True.intro
  have sz_w1 : w.heap.size ≤ w.heap.size := hs.size
  have Bldepth : Bx w1 (w.heap.size) 72 #[.bool shlo, .slice ahlo nhlo chlo, .slice Ahlo Nhlo Chlo, .bool shhi, .slice ahhi nhhi chhi, .slice Ahhi Nhhi Chhi] := by rw [hW]; exact (Bx.new0 _ _ _)
  replace hs := hs.trans hbw
  replace hlo := hlo.keep hk
  replace hhi := hhi.keep hk
  clear hW hG hk hbw
  have hz_w1 : w.heap.size < w1.heap.size := Bldepth.lt
  go_ret3
  exact ⟨rfl, hs⟩

set_option maxRecDepth 100000 in
set_option maxHeartbeats 4000000 in
theorem sc_Plies_many (v vr : Value) (L : List Rat) (lo hi : Rat) (w : World) (hl : Rows 3 36 PC w v L) (h0 : 12 < L.length) (hr : PV2 w vr lo hi) :
    Calls Try.prog 32 #[v, vr] w (RetV w (.tuple #[.int .i64 0, .int .i64 0, .int .i64 4])) := by
  obtain ⟨ao, rc, rfl, hc1, hc2, hc3⟩ := hl.slice
  have hs := Below.refl w.heap.size w
  have HL := Lib.hid hl
  clear hl
  obtain ⟨shlo, ahlo, nhlo, chlo, Ahlo, Nhlo, Chlo, shhi, ahhi, nhhi, chhi, Ahhi, Nhhi, Chhi, rfl, hlo, hhi⟩ := hr.shape
  clear hr
  go_enter Try.func32, Try.ntmps32
  have q1 : ¬ (L.length < 1) := by omega
  have q1d : ((L.length : Int) < 1) = False := eq_false (by omega)
  have q2 : 12 < L.length := by omega
  have q2d : ((12 : Int) < (L.length : Int)) = True := eq_true (by omega)
  go_wp2
  refine bodyPost.abs ?_
  intro w1 hW
  have hG : Gr [] w w1 := by rw [hW]; exact (Gr.refl _ _).alloc
  have hbw : Below w.heap.size w w1 := hG.below0 hs.size
  have hk : KeepD w w1 := hG.keep True.intro
  have sz_w1 : w.heap.size ≤ w.heap.size := hs.size
  have Bldepth : Bx w1 (w.heap.size) 72 #[.bool shlo, .slice ahlo nhlo chlo, .slice Ahlo Nhlo Chlo, .bool shhi, .slice ahhi nhhi chhi, .slice Ahhi Nhhi Chhi] := by rw [hW]; exact (Bx.new0 _ _ _)
  replace hs := hs.trans hbw
  replace hlo := hlo.keep hk
  replace hhi := hhi.keep hk
  clear hW hG hk hbw
  have hz_w1 : w.heap.size < w1.heap.size := Bldepth.lt
  go_ret3
  exact ⟨rfl, hs⟩

set_option maxRecDepth 100000 in
set_option maxHeartbeats 4000000 in
theorem sc_Plies_pos (v vr : Value) (L : List Rat) (lo hi : Rat) (w : World) (hl : Rows 3 36 PC w v L) (h1 : 1 ≤ L.length) (h12 : L.length ≤ 12) (hap : allPos L = false) (hr : PV2 w vr lo hi) :
    Calls Try.prog 32 #[v, vr] w (RetV w (.tuple #[.int .i64 0, .int .i64 0, .int .i64 1])) := by
  obtain ⟨ao, rc, rfl, hc1, hc2, hc3⟩ := hl.slice
  have hs := Below.refl w.heap.size w
  have HL := Lib.hid hl
  clear hl
  have HAP := Lib.hid hap
  clear hap
  obtain ⟨shlo, ahlo, nhlo, chlo, Ahlo, Nhlo, Chlo, shhi, ahhi, nhhi, chhi, Ahhi, Nhhi, Chhi, rfl, hlo, hhi⟩ := hr.shape
  clear hr
  go_enter Try.func32, Try.ntmps32
  have q1 : ¬ (L.length < 1) := by omega
  have q1d : ((L.length : Int) < 1) = False := eq_false (by omega)
  have q2 : ¬ (12 < L.length) := by omega
  have q2d : ((12 : Int) < (L.length : Int)) = False := eq_false (by omega)
  go_wp2_with fail
  refine Calls.abs ?_
  intro w1 hW
  have hG : Gr [] w w1 := by rw [hW]; exact (Gr.refl _ _).alloc
  have hbw : Below w.heap.size w w1 := hG.below0 hs.size
  have hk : KeepD w w1 := hG.keep True.intro
  have sz_w1 : w.heap.size ≤ w.heap.size := hs.size
  have Bldepth : Bx w1 (w.heap.size) 72 #[.bool shlo, .slice ahlo nhlo chlo, .slice Ahlo Nhlo Chlo, .bool shhi, .slice ahhi nhhi chhi, .slice Ahhi Nhhi Chhi] := by rw [hW]; exact (Bx.new0 _ _ _)
  replace hs := hs.trans hbw
  replace hlo := hlo.keep hk
  replace hhi := hhi.keep hk
  clear hW hG hk hbw
  have hz_w1 : w.heap.size < w1.heap.size := Bldepth.lt
  refine (sc_above_false HAP.out (HL.out.mono PC.kept hs)).mono ?_
  rintro e w2 ⟨rfl, hb⟩
  replace hs := bStep hs hb
  replace Bldepth := Bldepth.mono hb
  replace hlo := hlo.mono hb
  replace hhi := hhi.mono hb
  clear hb
  go_wp2
  go_ret3
  exact ⟨rfl, hs⟩

end Go.Proofs.Ytlfnapfnpkhggaa
