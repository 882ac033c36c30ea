/-
  scan's tables: checkSteps, value, Value, Porosity.
-/
import Derived.Test.YtlfnapfnpkhggaaGreatPkTabQ
import Derived.Test.YtlfnapfnpkhggaaGreatPkScanQ
import Derived.Test.YtlfnapfnpkhggaaGreatRangePQ
import Derived.Test.YtlfnapfnpkhggaaGreatPkHeldQ
set_option linter.unusedSimpArgs false
set_option linter.unusedVariables false
namespace Go.Proofs.YtlfnapfnpkhggaaGreat
open Go.RowKit Dg
attribute [local go_sem ↓] Go.wp_at_zero Go.wp_at_succ

theorem tabE_ord {T : List Stp} (h1 : 1 ≤ T.length) (h2 : T.length ≤ 12) (h : ascB T T.length = false) : tabE T = 7 := by
  unfold tabE; rw [if_neg (by omega), if_neg (by omega), h]; rfl
theorem tabE_yes {T : List Stp} (h1 : 1 ≤ T.length) (h2 : T.length ≤ 12) (h : ascB T T.length = true) : tabE T = 0 := by
  unfold tabE; rw [if_neg (by omega), if_neg (by omega), h]; rfl
theorem rowsSB (v : Value) (W W' : World) {l : List Stp} (h : Rows 6 113 (C2 PC) W v l) (hb : Below W.heap.size W W') : Rows 6 113 (C2 PC) W' v l := h.mono (C2.kept PC.kept) hb

set_option maxRecDepth 100000 in
set_option maxHeartbeats 16000000 in
theorem sc_checkSteps_none (v : Value) (T : List Stp) (w : World) (hl : Rows 6 113 (C2 PC) w v T) (h0 : T.length < 1) :
    Calls Tryz.prog 114 #[v] w (RetV w (.int .i64 4)) := by
  obtain ⟨ao, rc, rfl, hc1, hc2, hc3⟩ := hl.slice
  have hs := Below.refl w.heap.size w
  have HL := Lib.hid hl
  clear hl
  go_enter Tryz.func114, Tryz.ntmps114
  have q1 : T.length < 1 := by omega
  have q1d : ((T.length : Int) < 1) = True := eq_true (by omega)
  go_wp2
  go_ret
  exact ⟨rfl, hs⟩

set_option maxRecDepth 100000 in
set_option maxHeartbeats 16000000 in
theorem sc_checkSteps_many (v : Value) (T : List Stp) (w : World) (hl : Rows 6 113 (C2 PC) w v T) (h0 : 12 < T.length) :
    Calls Tryz.prog 114 #[v] w (RetV w (.int .i64 4)) := by
  obtain ⟨ao, rc, rfl, hc1, hc2, hc3⟩ := hl.slice
  have hs := Below.refl w.heap.size w
  have HL := Lib.hid hl
  clear hl
  go_enter Tryz.func114, Tryz.ntmps114
  have q1 : ¬ (T.length < 1) := by omega
  have q1d : ((T.length : Int) < 1) = False := eq_false (by omega)
  have q2 : 12 < T.length := by omega
  have q2d : ((12 : Int) < (T.length : Int)) = True := eq_true (by omega)
  go_wp2
  go_ret
  exact ⟨rfl, hs⟩

set_option maxRecDepth 100000 in
set_option maxHeartbeats 16000000 in
theorem sc_checkSteps_main (v : Value) (T : List Stp) (c : Int) (w : World) (hl : Rows 6 113 (C2 PC) w v T) (h1 : 1 ≤ T.length) (h12 : T.length ≤ 12) (hz : TabSz T) (hc : tabE T = c) :
    Calls Tryz.prog 114 #[v] w (RetV w (.int .i64 c)) := by
  obtain ⟨rb, ro, rc, rfl, hc1, hc2, -⟩ := hl.open_ (by omega)
  have hs := Below.refl w.heap.size w
  have HL := Lib.hid hl
  clear hl
  have HZ := Lib.hid hz
  have HCC := Lib.hid hc
  clear hz hc
  go_enter Tryz.func114, Tryz.ntmps114
  have q1 : ¬ (T.length < 1) := by omega
  have q1d : ((T.length : Int) < 1) = False := eq_false (by omega)
  have q2 : ¬ (12 < T.length) := by omega
  have q2d : ((12 : Int) < (T.length : Int)) = False := eq_false (by omega)
  go_wp2
  go_loopw [3] (fun s3 wq => ∃ k : Nat, 1 ≤ k ∧ k ≤ T.length ∧ s3 = .int .i64 k ∧ Below w.heap.size w wq ∧ (ascB T k = true)) (fun s3 _ => T.length - (intOf s3).toNat)
  case atStart => exact ⟨1, Nat.le_refl _, by omega, rfl, hs, ascB_one T⟩
  case round =>
    clear hs
    obtain ⟨k, k_ge, k_le, rfl, hs, HE⟩ := hrel
    replace HE := Lib.hid HE
    by_cases q3 : k < T.length
    · have q3d : ((k : Int) < (T.length : Int)) = True := eq_true (by omega)
      go_upto_region 6 with fail
      obtain ⟨ge4a, ae4a, ne4a, ce4a, Ae4a, Ne4a, De4a, ge4b, ae4b, ne4b, ce4b, Ae4b, Ne4b, De4b, Ee40, Ee41, Ee42, Ee43, Ee44, Ee45, he4a, he4b, le4⟩ := rowSP_at (HL.out.mono (C2.kept PC.kept) hs) (show k < T.length by omega)
      have SW5a := IntWalk.i64_in ((k : Int) - 1) (by omega)
      have SW5b : (0 : Int) ≤ (k : Int) - 1 := by omega
      have SW5c : ((k : Int) - 1).toNat = (k - 1) := by omega
      have SW5d : (k : Int) - 1 < (T.length : Int) := by omega
      have SW5e : (1 : Int) ≤ (k : Int) := by omega
      have SW5f : (k : Int) < (T.length : Int) + 1 := by omega
      obtain ⟨ge6a, ae6a, ne6a, ce6a, Ae6a, Ne6a, De6a, ge6b, ae6b, ne6b, ce6b, Ae6b, Ne6b, De6b, Ee60, Ee61, Ee62, Ee63, Ee64, Ee65, he6a, he6b, le6⟩ := rowSP_at (HL.out.mono (C2.kept PC.kept) hs) (show (k - 1) < T.length by omega)
      obtain ⟨sg7, Hsg7⟩ : ∃ s : Int, s = sgQ ((taQ T k) - (taQ T (k - 1))) := ⟨_, rfl⟩
      replace Hsg7 := Lib.hid Hsg7
      have hb := bDrew wr
      replace hs := bStep hs hb
      replace he4a := he4a.mono hb
      replace he4b := he4b.mono hb
      replace he6a := he6a.mono hb
      replace he6b := he6b.mono hb
      replace Ee40 := cellK Ee40 hb
      replace Ee41 := cellK Ee41 hb
      replace Ee42 := cellK Ee42 hb
      replace Ee43 := cellK Ee43 hb
      replace Ee44 := cellK Ee44 hb
      replace Ee45 := cellK Ee45 hb
      replace Ee60 := cellK Ee60 hb
      replace Ee61 := cellK Ee61 hb
      replace Ee62 := cellK Ee62 hb
      replace Ee63 := cellK Ee63 hb
      replace Ee64 := cellK Ee64 hb
      replace Ee65 := cellK Ee65 hb
      clear hb
      go_region_held3 (fun w' => w'.cell? ⟨rb, ro + k * 6, none⟩ = some (.bool ge4a) ∧ w'.cell? ⟨rb, ro + k * 6 + 1, none⟩ = some (.slice ae4a ne4a ce4a) ∧ w'.cell? ⟨rb, ro + k * 6 + 2, none⟩ = some (.slice Ae4a Ne4a De4a) ∧ w'.cell? ⟨rb, ro + k * 6 + 3, none⟩ = some (.bool ge4b) ∧ w'.cell? ⟨rb, ro + k * 6 + 4, none⟩ = some (.slice ae4b ne4b ce4b) ∧ w'.cell? ⟨rb, ro + k * 6 + 5, none⟩ = some (.slice Ae4b Ne4b De4b) ∧ w'.cell? ⟨rb, ro + (k - 1) * 6, none⟩ = some (.bool ge6a) ∧ w'.cell? ⟨rb, ro + (k - 1) * 6 + 1, none⟩ = some (.slice ae6a ne6a ce6a) ∧ w'.cell? ⟨rb, ro + (k - 1) * 6 + 2, none⟩ = some (.slice Ae6a Ne6a De6a) ∧ w'.cell? ⟨rb, ro + (k - 1) * 6 + 3, none⟩ = some (.bool ge6b) ∧ w'.cell? ⟨rb, ro + (k - 1) * 6 + 4, none⟩ = some (.slice ae6b ne6b ce6b) ∧ w'.cell? ⟨rb, ro + (k - 1) * 6 + 5, none⟩ = some (.slice Ae6b Ne6b De6b))
        (first | exact ⟨Ee40, Ee41, Ee42, Ee43, Ee44, Ee45, Ee60, Ee61, Ee62, Ee63, Ee64, Ee65⟩ | exact ⟨cellA Ee40 _, cellA Ee41 _, cellA Ee42 _, cellA Ee43 _, cellA Ee44 _, cellA Ee45 _, cellA Ee60 _, cellA Ee61 _, cellA Ee62 _, cellA Ee63 _, cellA Ee64 _, cellA Ee65 _⟩ | go_keep)
        (first
          | (go_at_call 21; (with_reducible refine (pCmp he4a he6a (SzQ.fit ((HZ.out k (by omega)).1)) (SzQ.fit ((HZ.out (k - 1) (by omega)).1))).mono ?_); rintro e w21 ⟨rfl, hb⟩; replace hs := bStep hs hb; replace he4a := he4a.mono hb; replace he4b := he4b.mono hb; replace he6a := he6a.mono hb; replace he6b := he6b.mono hb; replace Ee40 := cellK Ee40 hb; replace Ee41 := cellK Ee41 hb; replace Ee42 := cellK Ee42 hb; replace Ee43 := cellK Ee43 hb; replace Ee44 := cellK Ee44 hb; replace Ee45 := cellK Ee45 hb; replace Ee60 := cellK Ee60 hb; replace Ee61 := cellK Ee61 hb; replace Ee62 := cellK Ee62 hb; replace Ee63 := cellK Ee63 hb; replace Ee64 := cellK Ee64 hb; replace Ee65 := cellK Ee65 hb; clear hb; rw [← Hsg7.out]))
      clear Ee40 Ee41 Ee42 Ee43 Ee44 Ee45 Ee60 Ee61 Ee62 Ee63 Ee64 Ee65
      by_cases q8 : taQ T k ≤ taQ T (k - 1)
      · have q8_ : sg7 ≤ 0 := by have h := sq_le (taQ T k) (taQ T (k - 1)); rw [← Hsg7.out] at h; exact h.2 q8
        have q8H := Lib.hid q8
        clear q8
        have q8d : decide (sg7 ≤ 0) = true := decide_eq_true q8_
        go_wp2
        clear le4 le6
        go_ret
        exact ⟨by rw [← HCC.out, tabE_ord (by omega) (by omega) (ascB_bad (by omega) (by omega) q8H.out)]; rfl, hs⟩
      · have q8_ : ¬ (sg7 ≤ 0) := by have h := sq_le (taQ T k) (taQ T (k - 1)); rw [← Hsg7.out] at h; exact fun h1 => q8 (h.1 h1)
        have q8H := Lib.hid q8
        clear q8
        have q8d : decide (sg7 ≤ 0) = false := decide_eq_false q8_
        go_wp2
        go_roundw
        case rel => exact ⟨k + 1, by omega, by omega, by go_num, hs, ascB_step HE.out q8H.out⟩
        all_goals first | (simp [intOf]; done) | (simp [intOf]; omega)
    · have q3d : ((k : Int) < (T.length : Int)) = False := eq_false (by omega)
      obtain rfl : k = T.length := by omega
      go_wp2
      go_ret
      exact ⟨by rw [← HCC.out, tabE_yes (by omega) (by omega) HE.out]; rfl, hs⟩

theorem sc_checkSteps (v : Value) (T : List Stp) (w : World) (c : Int) (hl : Rows 6 113 (C2 PC) w v T) (hz : TabSz T) (hc : tabE T = c) : Calls Tryz.prog 114 #[v] w (RetV w (.int .i64 c)) := by
  by_cases h1 : T.length < 1
  · unfold tabE at hc; rw [if_pos h1] at hc; subst hc; exact sc_checkSteps_none v T w hl h1
  · by_cases h2 : 12 < T.length
    · unfold tabE at hc; rw [if_neg h1, if_pos h2] at hc; subst hc; exact sc_checkSteps_many v T w hl h2
    · exact sc_checkSteps_main v T c w hl (by omega) (by omega) hz hc

theorem all_lt {T : List Stp} {x : Rat} {k : Nat} (h : ∀ j, j < k → taQ T j < x) (h1 : ¬ x = taQ T k) (h2 : ¬ x < taQ T k) : ∀ j, j < k + 1 → taQ T j < x := fun j hj => by
  by_cases e : j = k
  · subst e; grind
  · exact h j (by omega)
theorem ne_between {T : List Stp} {x : Rat} {k : Nat} (h : taQ T (k - 1) < x) (h1 : x < taQ T k) : taQ T k - taQ T (k - 1) ≠ 0 := by grind

set_option maxRecDepth 100000 in
set_option maxHeartbeats 16000000 in
theorem sc_value (v : Value) (T : List Stp) (vx : Value) (x q : Rat) (c : Int) (w : World) (hl : Rows 6 113 (C2 PC) w v T) (h1 : 1 ≤ T.length) (hz : TabSz T) (hx : PV w vx x) (sx : SzQ 100 x) (hv : valQ T x = (q, c)) :
    Calls Tryz.prog 115 #[v, vx] w (Ret2 (fun w v => PV w v q) (fun _ v => v = .int .i64 c) w) := by
  obtain ⟨rb, ro, rc, rfl, hc1, hc2, -⟩ := hl.open_ (by omega)
  have hs := Below.refl w.heap.size w
  have HL := Lib.hid hl
  clear hl
  obtain ⟨shx, ahx, nhx, chx, Ahx, Nhx, Chx, rfl⟩ := hx.shape
  have HZ := Lib.hid hz
  have HVQ := Lib.hid hv
  clear hz hv
  go_enter Tryz.func115, Tryz.ntmps115
  go_wp2
  refine Code.abs ?_
  intro w1 hW
  have hG : Gr [] w w1 := by rw [hW]; exact (Gr.refl _ _).alloc.alloc
  have hbw : Below w.heap.size w w1 := hG.below0 hs.size
  have hk : KeepD w w1 := hG.keep True.intro
  have sz_w1 : w.heap.size ≤ w.heap.size := hs.size
  have Blat : Bx w1 (w.heap.size) 40 #[.bool shx, .slice ahx nhx chx, .slice Ahx Nhx Chx] := by rw [hW]; exact ((Bx.new0 _ _ _).alloc _)
  have Blk : Bx w1 (w.heap.size + 1) 40 #[.bool false, .slice none 0 0, .slice none 0 0] := by rw [hW]; exact (Bx.new0 _ _ _)
  replace hs := hs.trans hbw
  replace hx := hx.keep hk
  clear hW hG hk hbw
  have hz_w1 : w.heap.size + 1 < w1.heap.size := Blk.lt
  go_loopw [12] (fun s12 wq => ∃ k : Nat, k ≤ T.length ∧ s12 = .int .i64 k ∧ Below w.heap.size w wq ∧ Bx wq (w.heap.size) 40 #[.bool shx, .slice ahx nhx chx, .slice Ahx Nhx Chx] ∧ Bx wq (w.heap.size + 1) 40 #[.bool false, .slice none 0 0, .slice none 0 0] ∧ PV wq (.agg #[.bool shx, .slice ahx nhx chx, .slice Ahx Nhx Chx]) (x) ∧ (∀ j, j < k → taQ T j < x)) (fun s12 _ => T.length - (intOf s12).toNat)
  case atStart => exact ⟨0, Nat.zero_le _, rfl, hs, Blat, Blk, hx, fun j hj => absurd hj (Nat.not_lt_zero j)⟩
  case round =>
    clear Blat Blk hx hs
    obtain ⟨k, k_le, rfl, hs, Blat, Blk, hx, HE⟩ := hrel
    replace HE := Lib.hid HE
    by_cases q1 : k < T.length
    · have q1d : ((k : Int) < (T.length : Int)) = True := eq_true (by omega)
      obtain ⟨ge2a, ae2a, ne2a, ce2a, Ae2a, Ne2a, De2a, ge2b, ae2b, ne2b, ce2b, Ae2b, Ne2b, De2b, Ee20, Ee21, Ee22, Ee23, Ee24, Ee25, he2a, he2b, le2⟩ := rowSP_at (HL.out.mono (C2.kept PC.kept) hs) (show k < T.length by omega)
      have cat_0 : wr.cell? ⟨w.heap.size, 0, none⟩ = some (.bool shx) := Blat.at 0 rfl
      have cat_1 : wr.cell? ⟨w.heap.size, 1, none⟩ = some (.slice ahx nhx chx) := Blat.at 1 rfl
      have cat_2 : wr.cell? ⟨w.heap.size, 2, none⟩ = some (.slice Ahx Nhx Chx) := Blat.at 2 rfl
      have Lat : w.heap.size < wr.heap.size := Blat.lt
      go_wp2_with fail
      clear cat_0 cat_1 cat_2 Lat le2 Ee20 Ee21 Ee22 Ee23 Ee24 Ee25
      refine Calls.abs ?_
      intro w22 hW
      have hG : Gr [] wr w22 := by rw [hW]; exact (Gr.refl _ _).alloc
      have hbw : Below w.heap.size wr w22 := hG.below0 hs.size
      have hk : KeepD wr w22 := hG.keep True.intro
      have sz_w22 : w.heap.size ≤ wr.heap.size := hs.size
      have nat_w22 : w.heap.size < wr.heap.size := Blat.lt
      have nk_w22 : w.heap.size + 1 < wr.heap.size := Blk.lt
      have Bls : Bx w22 (wr.heap.size) 113 #[.bool ge2a, .slice ae2a ne2a ce2a, .slice Ae2a Ne2a De2a, .bool ge2b, .slice ae2b ne2b ce2b, .slice Ae2b Ne2b De2b] := by rw [hW]; exact (Bx.new0 _ _ _)
      replace hs := hs.trans hbw
      replace Blat := hG.bx Blat notMem0
      replace Blk := hG.bx Blk notMem0
      replace hx := hx.keep hk
      replace he2a := he2a.keep hk
      replace he2b := he2b.keep hk
      clear hW hG hk hbw
      have hz_w22 : wr.heap.size < w22.heap.size := Bls.lt
      with_reducible refine (pCmp hx he2a (SzQ.fit sx) (SzQ.fit ((HZ.out k (by omega)).1))).mono ?_
      rintro e w23 ⟨rfl, hb⟩
      replace hs := bStep hs hb
      replace Blat := Blat.mono hb
      replace Blk := Blk.mono hb
      replace Bls := Bls.mono hb
      replace hx := hx.mono hb
      replace he2a := he2a.mono hb
      replace he2b := he2b.mono hb
      clear hb
      obtain ⟨sg3, Hsg3⟩ : ∃ s : Int, s = sgQ (x - (taQ T k)) := ⟨_, rfl⟩
      rw [← Hsg3]
      replace Hsg3 := Lib.hid Hsg3
      by_cases q4 : x = taQ T k
      · have q4_ : sg3 = 0 := by have h := sq_eq x (taQ T k); rw [← Hsg3.out] at h; exact h.2 q4
        have q4H := Lib.hid q4
        clear q4
        have q4b : (sg3 == 0) = true := by rw [q4_]; rfl
        have q4n : (sg3 != 0) = false := by rw [q4_]; rfl
        clear q4_
        have cs_0 : w23.cell? ⟨wr.heap.size, 0, none⟩ = some (.bool ge2a) := Bls.at 0 rfl
        have cs_1 : w23.cell? ⟨wr.heap.size, 1, none⟩ = some (.slice ae2a ne2a ce2a) := Bls.at 1 rfl
        have cs_2 : w23.cell? ⟨wr.heap.size, 2, none⟩ = some (.slice Ae2a Ne2a De2a) := Bls.at 2 rfl
        have cs_3 : w23.cell? ⟨wr.heap.size, 3, none⟩ = some (.bool ge2b) := Bls.at 3 rfl
        have cs_4 : w23.cell? ⟨wr.heap.size, 4, none⟩ = some (.slice ae2b ne2b ce2b) := Bls.at 4 rfl
        have cs_5 : w23.cell? ⟨wr.heap.size, 5, none⟩ = some (.slice Ae2b Ne2b De2b) := Bls.at 5 rfl
        have Ls : wr.heap.size < w23.heap.size := Bls.lt
        have ck_0 : w23.cell? ⟨w.heap.size + 1, 0, none⟩ = some (.bool false) := Blk.at 0 rfl
        have ck_1 : w23.cell? ⟨w.heap.size + 1, 1, none⟩ = some (.slice none 0 0) := Blk.at 1 rfl
        have ck_2 : w23.cell? ⟨w.heap.size + 1, 2, none⟩ = some (.slice none 0 0) := Blk.at 2 rfl
        have fk := Blk.free
        have Lk : w.heap.size + 1 < w23.heap.size := Blk.lt
        go_wp2
        clear cs_0 cs_1 cs_2 cs_3 cs_4 cs_5 ck_0 ck_1 ck_2 fk Ls Lk
        refine bodyPost.abs ?_
        intro w24 hW
        have hG : Gr [w.heap.size + 1] w23 w24 := by rw [hW]; exact (Gr.refl _ _).set.set.set
        have hsz := hs.size
        have lk := Blk.lt
        have hbw : Below w.heap.size w23 w24 := hG.below1 hs.size (by first | omega | assumption)
        have hk : KeepD w23 w24 := hG.keep ⟨⟨_, Blk.ty, by decide⟩, True.intro⟩
        have Bl1k : Bx w24 (w.heap.size + 1) 40 #[.bool ge2b, .slice ae2b ne2b ce2b, .slice Ae2b Ne2b De2b] := by rw [hW]; exact Blk.set3
        replace hs := hs.trans hbw
        replace Blat := hG.bx Blat (notMem1 (by omega))
        replace Bls := hG.bx Bls (notMem1 (by omega))
        replace Blk := Bl1k
        clear Bl1k
        replace hx := hx.keep hk
        replace he2a := he2a.keep hk
        replace he2b := he2b.keep hk
        clear hW hG hk hbw hsz lk
        have ck_0 : w24.cell? ⟨w.heap.size + 1, 0, none⟩ = some (.bool ge2b) := Blk.at 0 rfl
        have ck_1 : w24.cell? ⟨w.heap.size + 1, 1, none⟩ = some (.slice ae2b ne2b ce2b) := Blk.at 1 rfl
        have ck_2 : w24.cell? ⟨w.heap.size + 1, 2, none⟩ = some (.slice Ae2b Ne2b De2b) := Blk.at 2 rfl
        exact bodyPost_ret (v := .tuple #[.agg #[.bool ge2b, .slice ae2b ne2b ce2b, .slice Ae2b Ne2b De2b], .int .i64 0]) (by simp [results, Tryz.results115, go_sem, ck_0, ck_1, ck_2]) rfl ⟨_, _, rfl, he2b.of_eq (Prod.mk.inj ((valQ_eq (by omega) HE.out q4H.out).symm.trans HVQ.out)).1, congrArg (Value.int .i64) (Prod.mk.inj ((valQ_eq (by omega) HE.out q4H.out).symm.trans HVQ.out)).2, hs⟩
      · have q4_ : ¬ (sg3 = 0) := by have h := sq_eq x (taQ T k); rw [← Hsg3.out] at h; exact fun h1 => q4 (h.1 h1)
        have q4H := Lib.hid q4
        clear q4
        have q4b : (sg3 == 0) = false := by simpa using q4_
        have q4n : (sg3 != 0) = true := by simpa using q4_
        by_cases q5 : x < taQ T k
        · have q5_ : sg3 < 0 := by have h := sq_lt x (taQ T k); rw [← Hsg3.out] at h; exact h.2 q5
          have q5H := Lib.hid q5
          clear q5
          have q5d : decide (sg3 < 0) = true := decide_eq_true q5_
          by_cases q6 : k = 0
          · have q6b : ((k : Int) == 0) = true := by simp; omega
            have q6n : ((k : Int) != 0) = false := by simp; omega
            obtain rfl : k = 0 := by omega
            have ck_0 : w23.cell? ⟨w.heap.size + 1, 0, none⟩ = some (.bool false) := Blk.at 0 rfl
            have ck_1 : w23.cell? ⟨w.heap.size + 1, 1, none⟩ = some (.slice none 0 0) := Blk.at 1 rfl
            have ck_2 : w23.cell? ⟨w.heap.size + 1, 2, none⟩ = some (.slice none 0 0) := Blk.at 2 rfl
            have fk := Blk.free
            have Lk : w.heap.size + 1 < w23.heap.size := Blk.lt
            go_wp2
            clear ck_0 ck_1 ck_2 fk Lk
            refine bodyPost.abs ?_
            intro w24 hW
            have hG : Gr [w.heap.size + 1] w23 w24 := by rw [hW]; exact (Gr.refl _ _).set.set.set
            have hsz := hs.size
            have lk := Blk.lt
            have hbw : Below w.heap.size w23 w24 := hG.below1 hs.size (by first | omega | assumption)
            have hk : KeepD w23 w24 := hG.keep ⟨⟨_, Blk.ty, by decide⟩, True.intro⟩
            have Bl1k : Bx w24 (w.heap.size + 1) 40 #[.bool false, .slice none 0 0, .slice none 0 0] := by rw [hW]; exact Blk.set3
            replace hs := hs.trans hbw
            replace Blat := hG.bx Blat (notMem1 (by omega))
            replace Bls := hG.bx Bls (notMem1 (by omega))
            replace Blk := Bl1k
            clear Bl1k
            replace hx := hx.keep hk
            replace he2a := he2a.keep hk
            replace he2b := he2b.keep hk
            clear hW hG hk hbw hsz lk
            have ck_0 : w24.cell? ⟨w.heap.size + 1, 0, none⟩ = some (.bool false) := Blk.at 0 rfl
            have ck_1 : w24.cell? ⟨w.heap.size + 1, 1, none⟩ = some (.slice none 0 0) := Blk.at 1 rfl
            have ck_2 : w24.cell? ⟨w.heap.size + 1, 2, none⟩ = some (.slice none 0 0) := Blk.at 2 rfl
            exact bodyPost_ret (v := .tuple #[.agg #[.bool false, .slice none 0 0, .slice none 0 0], .int .i64 5]) (by simp [results, Tryz.results115, go_sem, ck_0, ck_1, ck_2]) rfl ⟨_, _, rfl, (PV.zero _).of_eq (Prod.mk.inj ((valQ_first (by omega) q5H.out).symm.trans HVQ.out)).1, congrArg (Value.int .i64) (Prod.mk.inj ((valQ_first (by omega) q5H.out).symm.trans HVQ.out)).2, hs⟩
          · have q6b : ((k : Int) == 0) = false := by simp; omega
            have q6n : ((k : Int) != 0) = true := by simp; omega
            have q7 : x < taQ T k := q5H.out
            have q7_ : sg3 < 0 := by have h := sq_lt x (taQ T k); rw [← Hsg3.out] at h; exact h.2 q7
            have q7H := Lib.hid q7
            clear q7
            have q7d : decide (sg3 < 0) = true := decide_eq_true q7_
            have SW8a := IntWalk.i64_in ((k : Int) - 1) (by omega)
            have SW8b : (0 : Int) ≤ (k : Int) - 1 := by omega
            have SW8c : ((k : Int) - 1).toNat = (k - 1) := by omega
            have SW8d : (k : Int) - 1 < (T.length : Int) := by omega
            have SW8e : (1 : Int) ≤ (k : Int) := by omega
            have SW8f : (k : Int) < (T.length : Int) + 1 := by omega
            obtain ⟨ge9a, ae9a, ne9a, ce9a, Ae9a, Ne9a, De9a, ge9b, ae9b, ne9b, ce9b, Ae9b, Ne9b, De9b, Ee90, Ee91, Ee92, Ee93, Ee94, Ee95, he9a, he9b, le9⟩ := rowSP_at (HL.out.mono (C2.kept PC.kept) hs) (show (k - 1) < T.length by omega)
            go_upto_region 11 with fail
            clear le9 Ee90 Ee91 Ee92 Ee93 Ee94 Ee95
            refine Code.abs ?_
            intro w24 hW
            have hG : Gr [] w23 w24 := by rw [hW]; exact (Gr.refl _ _).alloc
            have hbw : Below w.heap.size w23 w24 := hG.below0 hs.size
            have hk : KeepD w23 w24 := hG.keep True.intro
            have sz_w24 : w.heap.size ≤ w23.heap.size := hs.size
            have nat_w24 : w.heap.size < w23.heap.size := Blat.lt
            have nk_w24 : w.heap.size + 1 < w23.heap.size := Blk.lt
            have ns_w24 : wr.heap.size < w23.heap.size := Bls.lt
            have Blp : Bx w24 (w23.heap.size) 113 #[.bool ge9a, .slice ae9a ne9a ce9a, .slice Ae9a Ne9a De9a, .bool ge9b, .slice ae9b ne9b ce9b, .slice Ae9b Ne9b De9b] := by rw [hW]; exact (Bx.new0 _ _ _)
            replace hs := hs.trans hbw
            replace Blat := hG.bx Blat notMem0
            replace Blk := hG.bx Blk notMem0
            replace Bls := hG.bx Bls notMem0
            replace hx := hx.keep hk
            replace he2a := he2a.keep hk
            replace he2b := he2b.keep hk
            replace he9a := he9a.keep hk
            replace he9b := he9b.keep hk
            clear hW hG hk hbw
            have hz_w24 : w23.heap.size < w24.heap.size := Blp.lt
            refine U_region (S := fun w' => w'.cell? ⟨w23.heap.size, 0, none⟩ = some (.bool ge9a) ∧ w'.cell? ⟨w23.heap.size, 1, none⟩ = some (.slice ae9a ne9a ce9a) ∧ w'.cell? ⟨w23.heap.size, 2, none⟩ = some (.slice Ae9a Ne9a De9a) ∧ w'.cell? ⟨w23.heap.size, 3, none⟩ = some (.bool ge9b) ∧ w'.cell? ⟨w23.heap.size, 4, none⟩ = some (.slice ae9b ne9b ce9b) ∧ w'.cell? ⟨w23.heap.size, 5, none⟩ = some (.slice Ae9b Ne9b De9b) ∧ w'.cell? ⟨wr.heap.size, 0, none⟩ = some (.bool ge2a) ∧ w'.cell? ⟨wr.heap.size, 1, none⟩ = some (.slice ae2a ne2a ce2a) ∧ w'.cell? ⟨wr.heap.size, 2, none⟩ = some (.slice Ae2a Ne2a De2a) ∧ w'.cell? ⟨wr.heap.size, 3, none⟩ = some (.bool ge2b) ∧ w'.cell? ⟨wr.heap.size, 4, none⟩ = some (.slice ae2b ne2b ce2b) ∧ w'.cell? ⟨wr.heap.size, 5, none⟩ = some (.slice Ae2b Ne2b De2b) ∧ w'.cell? ⟨w.heap.size, 0, none⟩ = some (.bool shx) ∧ w'.cell? ⟨w.heap.size, 1, none⟩ = some (.slice ahx nhx chx) ∧ w'.cell? ⟨w.heap.size, 2, none⟩ = some (.slice Ahx Nhx Chx)) (by kernel_rfl) 20 ?_
            refine AnyU.abs ?_
            intro w25 hW
            have hb : Below w24.heap.size w24 w25 := by rw [hW]; exact bDrew _
            replace hs := bStep hs hb
            replace Blat := Blat.mono hb
            replace Blk := Blk.mono hb
            replace Bls := Bls.mono hb
            replace Blp := Blp.mono hb
            replace hx := hx.mono hb
            replace he2a := he2a.mono hb
            replace he2b := he2b.mono hb
            replace he9a := he9a.mono hb
            replace he9b := he9b.mono hb
            clear hb hW
            have cp_0 : w25.cell? ⟨w23.heap.size, 0, none⟩ = some (.bool ge9a) := Blp.at 0 rfl
            have cp_1 : w25.cell? ⟨w23.heap.size, 1, none⟩ = some (.slice ae9a ne9a ce9a) := Blp.at 1 rfl
            have cp_2 : w25.cell? ⟨w23.heap.size, 2, none⟩ = some (.slice Ae9a Ne9a De9a) := Blp.at 2 rfl
            have cp_3 : w25.cell? ⟨w23.heap.size, 3, none⟩ = some (.bool ge9b) := Blp.at 3 rfl
            have cp_4 : w25.cell? ⟨w23.heap.size, 4, none⟩ = some (.slice ae9b ne9b ce9b) := Blp.at 4 rfl
            have cp_5 : w25.cell? ⟨w23.heap.size, 5, none⟩ = some (.slice Ae9b Ne9b De9b) := Blp.at 5 rfl
            have cs_0 : w25.cell? ⟨wr.heap.size, 0, none⟩ = some (.bool ge2a) := Bls.at 0 rfl
            have cs_1 : w25.cell? ⟨wr.heap.size, 1, none⟩ = some (.slice ae2a ne2a ce2a) := Bls.at 1 rfl
            have cs_2 : w25.cell? ⟨wr.heap.size, 2, none⟩ = some (.slice Ae2a Ne2a De2a) := Bls.at 2 rfl
            have cs_3 : w25.cell? ⟨wr.heap.size, 3, none⟩ = some (.bool ge2b) := Bls.at 3 rfl
            have cs_4 : w25.cell? ⟨wr.heap.size, 4, none⟩ = some (.slice ae2b ne2b ce2b) := Bls.at 4 rfl
            have cs_5 : w25.cell? ⟨wr.heap.size, 5, none⟩ = some (.slice Ae2b Ne2b De2b) := Bls.at 5 rfl
            have cat_0 : w25.cell? ⟨w.heap.size, 0, none⟩ = some (.bool shx) := Blat.at 0 rfl
            have cat_1 : w25.cell? ⟨w.heap.size, 1, none⟩ = some (.slice ahx nhx chx) := Blat.at 1 rfl
            have cat_2 : w25.cell? ⟨w.heap.size, 2, none⟩ = some (.slice Ahx Nhx Chx) := Blat.at 2 rfl
            have hH := (show w25.cell? ⟨w23.heap.size, 0, none⟩ = some (.bool ge9a) ∧ w25.cell? ⟨w23.heap.size, 1, none⟩ = some (.slice ae9a ne9a ce9a) ∧ w25.cell? ⟨w23.heap.size, 2, none⟩ = some (.slice Ae9a Ne9a De9a) ∧ w25.cell? ⟨w23.heap.size, 3, none⟩ = some (.bool ge9b) ∧ w25.cell? ⟨w23.heap.size, 4, none⟩ = some (.slice ae9b ne9b ce9b) ∧ w25.cell? ⟨w23.heap.size, 5, none⟩ = some (.slice Ae9b Ne9b De9b) ∧ w25.cell? ⟨wr.heap.size, 0, none⟩ = some (.bool ge2a) ∧ w25.cell? ⟨wr.heap.size, 1, none⟩ = some (.slice ae2a ne2a ce2a) ∧ w25.cell? ⟨wr.heap.size, 2, none⟩ = some (.slice Ae2a Ne2a De2a) ∧ w25.cell? ⟨wr.heap.size, 3, none⟩ = some (.bool ge2b) ∧ w25.cell? ⟨wr.heap.size, 4, none⟩ = some (.slice ae2b ne2b ce2b) ∧ w25.cell? ⟨wr.heap.size, 5, none⟩ = some (.slice Ae2b Ne2b De2b) ∧ w25.cell? ⟨w.heap.size, 0, none⟩ = some (.bool shx) ∧ w25.cell? ⟨w.heap.size, 1, none⟩ = some (.slice ahx nhx chx) ∧ w25.cell? ⟨w.heap.size, 2, none⟩ = some (.slice Ahx Nhx Chx) from ⟨cp_0, cp_1, cp_2, cp_3, cp_4, cp_5, cs_0, cs_1, cs_2, cs_3, cs_4, cs_5, cat_0, cat_1, cat_2⟩)
            refine U_take (i := 0) (v := ?_) rfl (by kernel_rfl) (by kernel_rfl) (by kernel_rfl) (by kernel_rfl) (fun _ _ _ h => h) (Or.inl ⟨by rfl, ?_⟩) hH ?_
            rotate_left
            · intro w hSw
              try dsimp only at hSw
              go_simp
              try with_reducible rfl
            try simp only [Act.put, List.setIfInBounds_toArray, List.set_cons_zero, List.set_cons_succ]
            refine U_take (i := 1) (v := ?_) rfl (by kernel_rfl) (by kernel_rfl) (by kernel_rfl) (by kernel_rfl) (fun _ _ _ h => h) (Or.inl ⟨by rfl, ?_⟩) hH ?_
            rotate_left
            · intro w hSw
              try dsimp only at hSw
              go_simp
              try with_reducible rfl
            try simp only [Act.put, List.setIfInBounds_toArray, List.set_cons_zero, List.set_cons_succ]
            refine U_take (i := 2) (v := ?_) rfl (by kernel_rfl) (by kernel_rfl) (by kernel_rfl) (by kernel_rfl) (fun _ _ _ h => h) (Or.inl ⟨by rfl, ?_⟩) hH ?_
            rotate_left
            · intro w hSw
              try dsimp only at hSw
              go_simp
              try with_reducible rfl
            try simp only [Act.put, List.setIfInBounds_toArray, List.set_cons_zero, List.set_cons_succ]
            refine U_take (i := 3) (v := ?_) rfl (by kernel_rfl) (by kernel_rfl) (by kernel_rfl) (by kernel_rfl) (fun _ _ _ h => h) (Or.inl ⟨by rfl, ?_⟩) hH ?_
            rotate_left
            · intro w hSw
              try dsimp only at hSw
              go_simp
              try with_reducible rfl
            try simp only [Act.put, List.setIfInBounds_toArray, List.set_cons_zero, List.set_cons_succ]
            refine U_take (i := 4) (v := ?_) rfl (by kernel_rfl) (by kernel_rfl) (by kernel_rfl) (by kernel_rfl) (fun _ _ _ h => h) (Or.inl ⟨by rfl, ?_⟩) hH ?_
            rotate_left
            · intro w hSw
              try dsimp only at hSw
              go_simp
              try with_reducible rfl
            try simp only [Act.put, List.setIfInBounds_toArray, List.set_cons_zero, List.set_cons_succ]
            refine U_take (i := 5) (v := ?_) rfl (by kernel_rfl) (by kernel_rfl) (by kernel_rfl) (by kernel_rfl) (fun _ _ _ h => h) (Or.inl ⟨by rfl, ?_⟩) hH ?_
            rotate_left
            · intro w hSw
              try dsimp only at hSw
              go_simp
              try with_reducible rfl
            try simp only [Act.put, List.setIfInBounds_toArray, List.set_cons_zero, List.set_cons_succ]
            refine U_take (i := 7) (v := ?_) rfl (by kernel_rfl) (by kernel_rfl) (by kernel_rfl) (by kernel_rfl) (fun _ _ _ h => h) (Or.inl ⟨by rfl, ?_⟩) hH ?_
            rotate_left
            · intro w hSw
              try dsimp only at hSw
              go_simp
              try with_reducible rfl
            try simp only [Act.put, List.setIfInBounds_toArray, List.set_cons_zero, List.set_cons_succ]
            refine U_take (i := 8) (v := ?_) rfl (by kernel_rfl) (by kernel_rfl) (by kernel_rfl) (by kernel_rfl) (fun _ _ _ h => h) (Or.inl ⟨by rfl, ?_⟩) hH ?_
            rotate_left
            · intro w hSw
              try dsimp only at hSw
              go_simp
              try with_reducible rfl
            try simp only [Act.put, List.setIfInBounds_toArray, List.set_cons_zero, List.set_cons_succ]
            refine U_take (i := 9) (v := ?_) rfl (by kernel_rfl) (by kernel_rfl) (by kernel_rfl) (by kernel_rfl) (fun _ _ _ h => h) (Or.inl ⟨by rfl, ?_⟩) hH ?_
            rotate_left
            · intro w hSw
              try dsimp only at hSw
              go_simp
              try with_reducible rfl
            try simp only [Act.put, List.setIfInBounds_toArray, List.set_cons_zero, List.set_cons_succ]
            refine U_take (i := 12) (v := ?_) rfl (by kernel_rfl) (by kernel_rfl) (by kernel_rfl) (by kernel_rfl) (fun _ _ _ h => h) (Or.inl ⟨by rfl, ?_⟩) hH ?_
            rotate_left
            · intro w hSw
              try dsimp only at hSw
              go_simp
              try with_reducible rfl
            try simp only [Act.put, List.setIfInBounds_toArray, List.set_cons_zero, List.set_cons_succ]
            refine U_take (i := 13) (v := ?_) rfl (by kernel_rfl) (by kernel_rfl) (by kernel_rfl) (by kernel_rfl) (fun _ _ _ h => h) (Or.inl ⟨by rfl, ?_⟩) hH ?_
            rotate_left
            · intro w hSw
              try dsimp only at hSw
              go_simp
              try with_reducible rfl
            try simp only [Act.put, List.setIfInBounds_toArray, List.set_cons_zero, List.set_cons_succ]
            refine U_take (i := 14) (v := ?_) rfl (by kernel_rfl) (by kernel_rfl) (by kernel_rfl) (by kernel_rfl) (fun _ _ _ h => h) (Or.inl ⟨by rfl, ?_⟩) hH ?_
            rotate_left
            · intro w hSw
              try dsimp only at hSw
              go_simp
              try with_reducible rfl
            try simp only [Act.put, List.setIfInBounds_toArray, List.set_cons_zero, List.set_cons_succ]
            refine U_take (i := 15) (v := ?_) rfl (by kernel_rfl) (by kernel_rfl) (by kernel_rfl) (by kernel_rfl) (fun _ _ _ h => h) (Or.inl ⟨by rfl, ?_⟩) hH ?_
            rotate_left
            · intro w hSw
              try dsimp only at hSw
              go_simp
              try with_reducible rfl
            try simp only [Act.put, List.setIfInBounds_toArray, List.set_cons_zero, List.set_cons_succ]
            clear hH
            refine U_one (i := 6) (by kernel_rfl) rfl (fun K hK => ?_)
            go_simp
            (with_reducible refine (pSub he2b he9b (SzQ.fit ((HZ.out k (by omega)).2)) (SzQ.fit ((HZ.out (k - 1) (by omega)).2))).mono ?_)
            rintro e w26 ⟨_, rfl, h10, hb⟩
            obtain ⟨sh10, ah10, nh10, ch10, Ah10, Nh10, Ch10, rfl⟩ := h10.shape
            replace hs := bStep hs hb
            replace Blat := Blat.mono hb
            replace Blk := Blk.mono hb
            replace Bls := Bls.mono hb
            replace Blp := Blp.mono hb
            replace hx := hx.mono hb
            replace he2a := he2a.mono hb
            replace he2b := he2b.mono hb
            replace he9a := he9a.mono hb
            replace he9b := he9b.mono hb
            replace cp_0 := cellK cp_0 hb
            replace cp_1 := cellK cp_1 hb
            replace cp_2 := cellK cp_2 hb
            replace cp_3 := cellK cp_3 hb
            replace cp_4 := cellK cp_4 hb
            replace cp_5 := cellK cp_5 hb
            replace cs_0 := cellK cs_0 hb
            replace cs_1 := cellK cs_1 hb
            replace cs_2 := cellK cs_2 hb
            replace cs_3 := cellK cs_3 hb
            replace cs_4 := cellK cs_4 hb
            replace cs_5 := cellK cs_5 hb
            replace cat_0 := cellK cat_0 hb
            replace cat_1 := cellK cat_1 hb
            replace cat_2 := cellK cat_2 hb
            clear hb
            try go_wp2_with fail
            refine hK.out _ _ ⟨cp_0, cp_1, cp_2, cp_3, cp_4, cp_5, cs_0, cs_1, cs_2, cs_3, cs_4, cs_5, cat_0, cat_1, cat_2⟩ (fun hH => ?_)
            clear hK K
            try simp only [Act.put, List.setIfInBounds_toArray, List.set_cons_zero, List.set_cons_succ]
            clear hH
            refine U_one (i := 10) (by kernel_rfl) rfl (fun K hK => ?_)
            go_simp
            (with_reducible refine (pSub hx he9a (SzQ.fit sx) (SzQ.fit ((HZ.out (k - 1) (by omega)).1))).mono ?_)
            rintro e w27 ⟨_, rfl, h11, hb⟩
            obtain ⟨sh11, ah11, nh11, ch11, Ah11, Nh11, Ch11, rfl⟩ := h11.shape
            replace hs := bStep hs hb
            replace Blat := Blat.mono hb
            replace Blk := Blk.mono hb
            replace Bls := Bls.mono hb
            replace Blp := Blp.mono hb
            replace hx := hx.mono hb
            replace he2a := he2a.mono hb
            replace he2b := he2b.mono hb
            replace he9a := he9a.mono hb
            replace he9b := he9b.mono hb
            replace h10 := h10.mono hb
            replace cp_0 := cellK cp_0 hb
            replace cp_1 := cellK cp_1 hb
            replace cp_2 := cellK cp_2 hb
            replace cp_3 := cellK cp_3 hb
            replace cp_4 := cellK cp_4 hb
            replace cp_5 := cellK cp_5 hb
            replace cs_0 := cellK cs_0 hb
            replace cs_1 := cellK cs_1 hb
            replace cs_2 := cellK cs_2 hb
            replace cs_3 := cellK cs_3 hb
            replace cs_4 := cellK cs_4 hb
            replace cs_5 := cellK cs_5 hb
            replace cat_0 := cellK cat_0 hb
            replace cat_1 := cellK cat_1 hb
            replace cat_2 := cellK cat_2 hb
            clear hb
            try go_wp2_with fail
            refine hK.out _ _ ⟨cp_0, cp_1, cp_2, cp_3, cp_4, cp_5, cs_0, cs_1, cs_2, cs_3, cs_4, cs_5, cat_0, cat_1, cat_2⟩ (fun hH => ?_)
            clear hK K
            try simp only [Act.put, List.setIfInBounds_toArray, List.set_cons_zero, List.set_cons_succ]
            clear hH
            refine U_one (i := 11) (by kernel_rfl) rfl (fun K hK => ?_)
            go_simp
            (with_reducible refine (pMul h10 h11 (SzQ.fit (SzQ.sub ((HZ.out k (by omega)).2) ((HZ.out (k - 1) (by omega)).2))) (SzQ.fit (SzQ.sub sx ((HZ.out (k - 1) (by omega)).1)))).mono ?_)
            rintro e w28 ⟨_, rfl, h12, hb⟩
            obtain ⟨sh12, ah12, nh12, ch12, Ah12, Nh12, Ch12, rfl⟩ := h12.shape
            replace hs := bStep hs hb
            replace Blat := Blat.mono hb
            replace Blk := Blk.mono hb
            replace Bls := Bls.mono hb
            replace Blp := Blp.mono hb
            replace hx := hx.mono hb
            replace he2a := he2a.mono hb
            replace he2b := he2b.mono hb
            replace he9a := he9a.mono hb
            replace he9b := he9b.mono hb
            replace h10 := h10.mono hb
            replace h11 := h11.mono hb
            replace cp_0 := cellK cp_0 hb
            replace cp_1 := cellK cp_1 hb
            replace cp_2 := cellK cp_2 hb
            replace cp_3 := cellK cp_3 hb
            replace cp_4 := cellK cp_4 hb
            replace cp_5 := cellK cp_5 hb
            replace cs_0 := cellK cs_0 hb
            replace cs_1 := cellK cs_1 hb
            replace cs_2 := cellK cs_2 hb
            replace cs_3 := cellK cs_3 hb
            replace cs_4 := cellK cs_4 hb
            replace cs_5 := cellK cs_5 hb
            replace cat_0 := cellK cat_0 hb
            replace cat_1 := cellK cat_1 hb
            replace cat_2 := cellK cat_2 hb
            clear hb
            try go_wp2_with fail
            refine hK.out _ _ ⟨cp_0, cp_1, cp_2, cp_3, cp_4, cp_5, cs_0, cs_1, cs_2, cs_3, cs_4, cs_5, cat_0, cat_1, cat_2⟩ (fun hH => ?_)
            clear hK K
            try simp only [Act.put, List.setIfInBounds_toArray, List.set_cons_zero, List.set_cons_succ]
            clear hH
            refine U_one (i := 16) (by kernel_rfl) rfl (fun K hK => ?_)
            go_simp
            (with_reducible refine (pSub he2a he9a (SzQ.fit ((HZ.out k (by omega)).1)) (SzQ.fit ((HZ.out (k - 1) (by omega)).1))).mono ?_)
            rintro e w29 ⟨_, rfl, h13, hb⟩
            obtain ⟨sh13, ah13, nh13, ch13, Ah13, Nh13, Ch13, rfl⟩ := h13.shape
            replace hs := bStep hs hb
            replace Blat := Blat.mono hb
            replace Blk := Blk.mono hb
            replace Bls := Bls.mono hb
            replace Blp := Blp.mono hb
            replace hx := hx.mono hb
            replace he2a := he2a.mono hb
            replace he2b := he2b.mono hb
            replace he9a := he9a.mono hb
            replace he9b := he9b.mono hb
            replace h10 := h10.mono hb
            replace h11 := h11.mono hb
            replace h12 := h12.mono hb
            replace cp_0 := cellK cp_0 hb
            replace cp_1 := cellK cp_1 hb
            replace cp_2 := cellK cp_2 hb
            replace cp_3 := cellK cp_3 hb
            replace cp_4 := cellK cp_4 hb
            replace cp_5 := cellK cp_5 hb
            replace cs_0 := cellK cs_0 hb
            replace cs_1 := cellK cs_1 hb
            replace cs_2 := cellK cs_2 hb
            replace cs_3 := cellK cs_3 hb
            replace cs_4 := cellK cs_4 hb
            replace cs_5 := cellK cs_5 hb
            replace cat_0 := cellK cat_0 hb
            replace cat_1 := cellK cat_1 hb
            replace cat_2 := cellK cat_2 hb
            clear hb
            try go_wp2_with fail
            refine hK.out _ _ ⟨cp_0, cp_1, cp_2, cp_3, cp_4, cp_5, cs_0, cs_1, cs_2, cs_3, cs_4, cs_5, cat_0, cat_1, cat_2⟩ (fun hH => ?_)
            clear hK K
            try simp only [Act.put, List.setIfInBounds_toArray, List.set_cons_zero, List.set_cons_succ]
            clear hH
            refine U_one (i := 17) (by kernel_rfl) rfl (fun K hK => ?_)
            go_simp
            (with_reducible refine (sc_over _ _ _ _ _ h12 h13 (SzQ.fit (SzQ.mul (SzQ.sub ((HZ.out k (by omega)).2) ((HZ.out (k - 1) (by omega)).2)) (SzQ.sub sx ((HZ.out (k - 1) (by omega)).1)))) (SzQ.fit (SzQ.sub ((HZ.out k (by omega)).1) ((HZ.out (k - 1) (by omega)).1))) (ne_between (HE.out (k - 1) (by omega)) q5H.out)).mono ?_)
            rintro e w30 ⟨_, rfl, h14, hb⟩
            obtain ⟨sh14, ah14, nh14, ch14, Ah14, Nh14, Ch14, rfl⟩ := h14.shape
            replace hs := bStep hs hb
            replace Blat := Blat.mono hb
            replace Blk := Blk.mono hb
            replace Bls := Bls.mono hb
            replace Blp := Blp.mono hb
            replace hx := hx.mono hb
            replace he2a := he2a.mono hb
            replace he2b := he2b.mono hb
            replace he9a := he9a.mono hb
            replace he9b := he9b.mono hb
            replace h10 := h10.mono hb
            replace h11 := h11.mono hb
            replace h12 := h12.mono hb
            replace h13 := h13.mono hb
            replace cp_0 := cellK cp_0 hb
            replace cp_1 := cellK cp_1 hb
            replace cp_2 := cellK cp_2 hb
            replace cp_3 := cellK cp_3 hb
            replace cp_4 := cellK cp_4 hb
            replace cp_5 := cellK cp_5 hb
            replace cs_0 := cellK cs_0 hb
            replace cs_1 := cellK cs_1 hb
            replace cs_2 := cellK cs_2 hb
            replace cs_3 := cellK cs_3 hb
            replace cs_4 := cellK cs_4 hb
            replace cs_5 := cellK cs_5 hb
            replace cat_0 := cellK cat_0 hb
            replace cat_1 := cellK cat_1 hb
            replace cat_2 := cellK cat_2 hb
            clear hb
            try go_wp2_with fail
            refine hK.out _ _ ⟨cp_0, cp_1, cp_2, cp_3, cp_4, cp_5, cs_0, cs_1, cs_2, cs_3, cs_4, cs_5, cat_0, cat_1, cat_2⟩ (fun hH => ?_)
            clear hK K
            try simp only [Act.put, List.setIfInBounds_toArray, List.set_cons_zero, List.set_cons_succ]
            clear hH
            refine U_one (i := 18) (by kernel_rfl) rfl (fun K hK => ?_)
            go_simp
            (with_reducible refine (pAdd he9b h14 (SzQ.fit ((HZ.out (k - 1) (by omega)).2)) (SzQ.fit (SzQ.div (SzQ.mul (SzQ.sub ((HZ.out k (by omega)).2) ((HZ.out (k - 1) (by omega)).2)) (SzQ.sub sx ((HZ.out (k - 1) (by omega)).1))) (SzQ.sub ((HZ.out k (by omega)).1) ((HZ.out (k - 1) (by omega)).1)) (ne_between (HE.out (k - 1) (by omega)) q5H.out)))).mono ?_)
            rintro e w31 ⟨_, rfl, h15, hb⟩
            obtain ⟨sh15, ah15, nh15, ch15, Ah15, Nh15, Ch15, rfl⟩ := h15.shape
            replace hs := bStep hs hb
            replace Blat := Blat.mono hb
            replace Blk := Blk.mono hb
            replace Bls := Bls.mono hb
            replace Blp := Blp.mono hb
            replace hx := hx.mono hb
            replace he2a := he2a.mono hb
            replace he2b := he2b.mono hb
            replace he9a := he9a.mono hb
            replace he9b := he9b.mono hb
            replace h10 := h10.mono hb
            replace h11 := h11.mono hb
            replace h12 := h12.mono hb
            replace h13 := h13.mono hb
            replace h14 := h14.mono hb
            replace cp_0 := cellK cp_0 hb
            replace cp_1 := cellK cp_1 hb
            replace cp_2 := cellK cp_2 hb
            replace cp_3 := cellK cp_3 hb
            replace cp_4 := cellK cp_4 hb
            replace cp_5 := cellK cp_5 hb
            replace cs_0 := cellK cs_0 hb
            replace cs_1 := cellK cs_1 hb
            replace cs_2 := cellK cs_2 hb
            replace cs_3 := cellK cs_3 hb
            replace cs_4 := cellK cs_4 hb
            replace cs_5 := cellK cs_5 hb
            replace cat_0 := cellK cat_0 hb
            replace cat_1 := cellK cat_1 hb
            replace cat_2 := cellK cat_2 hb
            clear hb
            try go_wp2_with fail
            refine hK.out _ _ ⟨cp_0, cp_1, cp_2, cp_3, cp_4, cp_5, cs_0, cs_1, cs_2, cs_3, cs_4, cs_5, cat_0, cat_1, cat_2⟩ (fun hH => ?_)
            clear hK K
            try simp only [Act.put, List.setIfInBounds_toArray, List.set_cons_zero, List.set_cons_succ]
            clear hH
            have ck_0 : w31.cell? ⟨w.heap.size + 1, 0, none⟩ = some (.bool false) := Blk.at 0 rfl
            have ck_1 : w31.cell? ⟨w.heap.size + 1, 1, none⟩ = some (.slice none 0 0) := Blk.at 1 rfl
            have ck_2 : w31.cell? ⟨w.heap.size + 1, 2, none⟩ = some (.slice none 0 0) := Blk.at 2 rfl
            have fk := Blk.free
            have Lk : w.heap.size + 1 < w31.heap.size := Blk.lt
            refine U_one (i := 19) (by kernel_rfl) rfl (fun K hK => ?_)
            go_simp
            generalize hW_ : (((w31.setCell ⟨w.heap.size + 1, 0, none⟩ (.bool sh15)).setCell ⟨w.heap.size + 1, 1, none⟩ (.slice ah15 nh15 ch15)).setCell ⟨w.heap.size + 1, 2, none⟩ (.slice Ah15 Nh15 Ch15)) = w32
            have hW := hW_.symm
            clear hW_
            have hG : Gr [w.heap.size + 1] w31 w32 := by rw [hW]; exact (Gr.refl _ _).set.set.set
            have hsz := hs.size
            have lk := Blk.lt
            have hbw : Below w.heap.size w31 w32 := hG.below1 hs.size (by first | omega | assumption)
            have hk : KeepD w31 w32 := hG.keep ⟨⟨_, Blk.ty, by decide⟩, True.intro⟩
            have Bl1k : Bx w32 (w.heap.size + 1) 40 #[.bool sh15, .slice ah15 nh15 ch15, .slice Ah15 Nh15 Ch15] := by rw [hW]; exact Blk.set3
            replace hs := hs.trans hbw
            replace Blat := hG.bx Blat (notMem1 (by omega))
            replace Bls := hG.bx Bls (notMem1 (by omega))
            replace Blp := hG.bx Blp (notMem1 (by omega))
            replace Blk := Bl1k
            clear Bl1k
            replace hx := hx.keep hk
            replace he2a := he2a.keep hk
            replace he2b := he2b.keep hk
            replace he9a := he9a.keep hk
            replace he9b := he9b.keep hk
            replace h10 := h10.keep hk
            replace h11 := h11.keep hk
            replace h12 := h12.keep hk
            replace h13 := h13.keep hk
            replace h14 := h14.keep hk
            replace h15 := h15.keep hk
            replace cp_0 := hG.cell cp_0 (notMem1 (by dsimp only; omega))
            replace cp_1 := hG.cell cp_1 (notMem1 (by dsimp only; omega))
            replace cp_2 := hG.cell cp_2 (notMem1 (by dsimp only; omega))
            replace cp_3 := hG.cell cp_3 (notMem1 (by dsimp only; omega))
            replace cp_4 := hG.cell cp_4 (notMem1 (by dsimp only; omega))
            replace cp_5 := hG.cell cp_5 (notMem1 (by dsimp only; omega))
            replace cs_0 := hG.cell cs_0 (notMem1 (by dsimp only; omega))
            replace cs_1 := hG.cell cs_1 (notMem1 (by dsimp only; omega))
            replace cs_2 := hG.cell cs_2 (notMem1 (by dsimp only; omega))
            replace cs_3 := hG.cell cs_3 (notMem1 (by dsimp only; omega))
            replace cs_4 := hG.cell cs_4 (notMem1 (by dsimp only; omega))
            replace cs_5 := hG.cell cs_5 (notMem1 (by dsimp only; omega))
            replace cat_0 := hG.cell cat_0 (notMem1 (by dsimp only; omega))
            replace cat_1 := hG.cell cat_1 (notMem1 (by dsimp only; omega))
            replace cat_2 := hG.cell cat_2 (notMem1 (by dsimp only; omega))
            clear hW hG hk hbw hsz lk
            refine hK.out _ _ ⟨cp_0, cp_1, cp_2, cp_3, cp_4, cp_5, cs_0, cs_1, cs_2, cs_3, cs_4, cs_5, cat_0, cat_1, cat_2⟩ (fun hH => ?_)
            clear hK K
            try simp only [Act.put, List.setIfInBounds_toArray, List.set_cons_zero, List.set_cons_succ]
            clear hH
            refine U_last (by kernel_rfl) rfl (by kernel_rfl) (fun K hK => ?_)
            go_simp
            refine hK.out _ _ ?_
            clear hK K
            intro wl hW
            rw [hW]
            clear hW wl
            try simp only [Act.put, List.setIfInBounds_toArray, List.set_cons_zero, List.set_cons_succ]
            clear cp_0 cp_1 cp_2 cp_3 cp_4 cp_5 cs_0 cs_1 cs_2 cs_3 cs_4 cs_5 cat_0 cat_1 cat_2
            go_wp2
            have ck_0 : w32.cell? ⟨w.heap.size + 1, 0, none⟩ = some (.bool sh15) := Blk.at 0 rfl
            have ck_1 : w32.cell? ⟨w.heap.size + 1, 1, none⟩ = some (.slice ah15 nh15 ch15) := Blk.at 1 rfl
            have ck_2 : w32.cell? ⟨w.heap.size + 1, 2, none⟩ = some (.slice Ah15 Nh15 Ch15) := Blk.at 2 rfl
            exact bodyPost_ret (v := .tuple #[.agg #[.bool sh15, .slice ah15 nh15 ch15, .slice Ah15 Nh15 Ch15], .int .i64 0]) (by simp [results, Tryz.results115, go_sem, ck_0, ck_1, ck_2]) rfl ⟨_, _, rfl, h15.of_eq (Prod.mk.inj ((valQ_itp (by omega) HE.out q5H.out (by omega)).symm.trans HVQ.out)).1, congrArg (Value.int .i64) (Prod.mk.inj ((valQ_itp (by omega) HE.out q5H.out (by omega)).symm.trans HVQ.out)).2, hs⟩
        · have q5_ : ¬ (sg3 < 0) := by have h := sq_lt x (taQ T k); rw [← Hsg3.out] at h; exact fun h1 => q5 (h.1 h1)
          have q5H := Lib.hid q5
          clear q5
          have q5d : decide (sg3 < 0) = false := decide_eq_false q5_
          have q6 : ¬ (x < taQ T k) := q5H.out
          have q6_ : ¬ (sg3 < 0) := by have h := sq_lt x (taQ T k); rw [← Hsg3.out] at h; exact fun h1 => q6 (h.1 h1)
          have q6H := Lib.hid q6
          clear q6
          have q6d : decide (sg3 < 0) = false := decide_eq_false q6_
          go_wp2
          go_roundw
          case rel => exact ⟨k + 1, by omega, by go_num, hs, Blat, Blk, hx, all_lt HE.out q4H.out q5H.out⟩
          all_goals first | (simp [intOf]; done) | (simp [intOf]; omega)
    · have q1d : ((k : Int) < (T.length : Int)) = False := eq_false (by omega)
      obtain rfl : k = T.length := by omega
      have ck_0 : wr.cell? ⟨w.heap.size + 1, 0, none⟩ = some (.bool false) := Blk.at 0 rfl
      have ck_1 : wr.cell? ⟨w.heap.size + 1, 1, none⟩ = some (.slice none 0 0) := Blk.at 1 rfl
      have ck_2 : wr.cell? ⟨w.heap.size + 1, 2, none⟩ = some (.slice none 0 0) := Blk.at 2 rfl
      have fk := Blk.free
      have Lk : w.heap.size + 1 < wr.heap.size := Blk.lt
      go_wp2
      clear ck_0 ck_1 ck_2 fk Lk
      refine bodyPost.abs ?_
      intro w22 hW
      have hG : Gr [w.heap.size + 1] wr w22 := by rw [hW]; exact (Gr.refl _ _).set.set.set
      have hsz := hs.size
      have lk := Blk.lt
      have hbw : Below w.heap.size wr w22 := hG.below1 hs.size (by first | omega | assumption)
      have hk : KeepD wr w22 := hG.keep ⟨⟨_, Blk.ty, by decide⟩, True.intro⟩
      have Bl1k : Bx w22 (w.heap.size + 1) 40 #[.bool false, .slice none 0 0, .slice none 0 0] := by rw [hW]; exact Blk.set3
      replace hs := hs.trans hbw
      replace Blat := hG.bx Blat (notMem1 (by omega))
      replace Blk := Bl1k
      clear Bl1k
      replace hx := hx.keep hk
      clear hW hG hk hbw hsz lk
      have ck_0 : w22.cell? ⟨w.heap.size + 1, 0, none⟩ = some (.bool false) := Blk.at 0 rfl
      have ck_1 : w22.cell? ⟨w.heap.size + 1, 1, none⟩ = some (.slice none 0 0) := Blk.at 1 rfl
      have ck_2 : w22.cell? ⟨w.heap.size + 1, 2, none⟩ = some (.slice none 0 0) := Blk.at 2 rfl
      exact bodyPost_ret (v := .tuple #[.agg #[.bool false, .slice none 0 0, .slice none 0 0], .int .i64 5]) (by simp [results, Tryz.results115, go_sem, ck_0, ck_1, ck_2]) rfl ⟨_, _, rfl, (PV.zero _).of_eq (Prod.mk.inj ((valQ_last HE.out).symm.trans HVQ.out)).1, congrArg (Value.int .i64) (Prod.mk.inj ((valQ_last HE.out).symm.trans HVQ.out)).2, hs⟩

end Go.Proofs.YtlfnapfnpkhggaaGreat
