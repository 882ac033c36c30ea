/-
  slices.MinFunc and MaxFunc at the program's fractions, by Ratio.Cmp: the first least one, the first greatest one of a list.
-/
import Derived.Test.YtlfnapfnpkhggaaGreatSg
import Derived.Test.YtlfnapfnpkhggaaGreatPkHeld
set_option linter.unusedSimpArgs false
set_option linter.unusedVariables false
namespace Go.Proofs.YtlfnapfnpkhggaaGreat
open Go.RowKit Dg
attribute [local go_sem ↓] Go.wp_at_zero Go.wp_at_succ

set_option maxRecDepth 100000 in
set_option maxHeartbeats 8000000 in
theorem p_MinFunc (v : Value) (L : List Rat) (w : World) (hl : Rows 3 40 PC w v L) (h0 : 0 < L.length) (h1 : L.length ≤ 1000) (hf : ∀ i, i < L.length → Fit (nthQ L i)) :
    Calls Tryz.prog 158 #[v, .func (.func 21) #[] #[]] w (RetP w (mnL L (L.length - 1))) := by
  obtain ⟨rb, ro, rc, rfl, hc1, hc2, _⟩ := hl.open_ h0
  have hs := Below.refl w.heap.size w
  have HL := Lib.hid hl
  have HF := Lib.hid hf
  have hrb := hl.lt h0
  clear hl hf
  go_enter Tryz.func158, Tryz.ntmps158
  obtain ⟨gu, au, nu, cu, Au, Nu, Du, Eu0, Eu1, Eu2, hu, hub⟩ := rowP_at HL.out h0
  simp only [Nat.zero_mul, Nat.add_zero] at Eu0 Eu1 Eu2
  go_wp2
  clear Eu0 Eu1 Eu2 hub
  refine Code.abs ?_
  intro w1 hW
  have hG : Gr [] w w1 := by rw [hW]; exact (Gr.refl _ _).alloc.alloc
  have hbw : Below w.heap.size w w1 := hG.below0 hs.size
  have hk : KeepD w w1 := hG.keep True.intro
  have Blz : Bx w1 (w.heap.size) 40 #[.bool false, .slice none 0 0, .slice none 0 0] := by rw [hW]; exact ((Bx.new0 _ _ _).alloc _)
  have Blm : Bx w1 (w.heap.size + 1) 40 #[.bool gu, .slice au nu cu, .slice Au Nu Du] := by rw [hW]; exact (Bx.new0 _ _ _)
  replace hs := hs.trans hbw
  replace hu := hu.keep hk
  clear hW hG hk hbw
  have hz_w1 : w.heap.size + 1 < w1.heap.size := Blm.lt
  go_loopw [6] (fun iv wq => ∃ j : Nat, 1 ≤ j ∧ j ≤ L.length ∧ iv = .int .i64 (j : Int) ∧ Below w.heap.size w wq ∧ BoxP wq (w.heap.size + 1) (mnL L (j - 1)) ∧ Bx wq w.heap.size 40 #[.bool false, .slice none 0 0, .slice none 0 0]) (fun iv _ => L.length - (intOf iv).toNat)
  case atStart => exact ⟨1, Nat.le_refl _, by omega, rfl, hs, ⟨_, _, _, _, _, _, _, Blm, hu⟩, Blz⟩
  case round =>
    clear hs Blm Blz hu
    obtain ⟨j, hj1, hj, rfl, hs, ⟨gm, am, nm, cm, Am, Nm, Dm, Blm, hm⟩, Blz⟩ := hrel
    by_cases hlt : j < L.length
    · obtain ⟨gu, au, nu, cu, Au, Nu, Du, Eu0, Eu1, Eu2, hu, hub⟩ := rowP_at (HL.out.mono PC.kept hs) hlt
      have ftu := HF.out j hlt
      have ftm : Fit (mnL L (j - 1)) := mnL_all HF.out (j - 1) (by omega)
      have HST := Lib.hid (show mnL L (j + 1 - 1) = _ by rw [show j + 1 - 1 = (j - 1) + 1 by omega, mnL_succ, show j - 1 + 1 = j by omega])
      have hc := sq_lt (nthQ L j) (mnL L (j - 1))
      obtain ⟨sg, HSG⟩ : ∃ s : Int, s = sgQ (nthQ L j - mnL L (j - 1)) := ⟨_, rfl⟩
      rw [← HSG] at hc
      replace HSG := Lib.hid HSG
      have bk1 : (0 : Int) ≤ (j : Int) := by omega
      have bk2 : (j : Int) < (L.length : Int) := by omega
      by_cases hq : nthQ L j < mnL L (j - 1)
      · have hsq : sg < 0 := hc.2 hq
        have HQ := Lib.hid hq
        clear hq hc
        go_upto_region 7 with fail
        have hb := bDrew wr
        replace hs := bStep hs hb
        replace Blz := Blz.mono hb
        replace Blm := Blm.mono hb
        replace hm := hm.mono hb
        replace hu := hu.mono hb
        replace Eu0 := cellK Eu0 hb
        replace Eu1 := cellK Eu1 hb
        replace Eu2 := cellK Eu2 hb
        clear hb
        have cm_0 : (wr.drew).cell? ⟨w.heap.size + 1, 0, none⟩ = some (.bool gm) := Blm.at 0 rfl
        have cm_1 : (wr.drew).cell? ⟨w.heap.size + 1, 1, none⟩ = some (.slice am nm cm) := Blm.at 1 rfl
        have cm_2 : (wr.drew).cell? ⟨w.heap.size + 1, 2, none⟩ = some (.slice Am Nm Dm) := Blm.at 2 rfl
        go_region_held3 (fun w' => w'.cell? ⟨w.heap.size + 1, 0, none⟩ = some (.bool gm) ∧ w'.cell? ⟨w.heap.size + 1, 1, none⟩ = some (.slice am nm cm) ∧ w'.cell? ⟨w.heap.size + 1, 2, none⟩ = some (.slice Am Nm Dm) ∧ w'.cell? ⟨rb, ro + j * 3, none⟩ = some (.bool gu) ∧ w'.cell? ⟨rb, ro + j * 3 + 1, none⟩ = some (.slice au nu cu) ∧ w'.cell? ⟨rb, ro + j * 3 + 2, none⟩ = some (.slice Au Nu Du))
          (first | exact ⟨cm_0, cm_1, cm_2, Eu0, Eu1, Eu2⟩ | exact ⟨cellA cm_0 _, cellA cm_1 _, cellA cm_2 _, cellA Eu0 _, cellA Eu1 _, cellA Eu2 _⟩ | go_keep)
          (first
            | (go_at_call 21; (with_reducible refine (pCmp hu hm ftu ftm).mono ?_); rintro e w21 ⟨rfl, hb⟩; rw [← HSG.out]; replace hs := bStep hs hb; replace Blz := Blz.mono hb; replace Blm := Blm.mono hb; replace hm := hm.mono hb; replace hu := hu.mono hb; replace cm_0 := cellK cm_0 hb; replace cm_1 := cellK cm_1 hb; replace cm_2 := cellK cm_2 hb; replace Eu0 := cellK Eu0 hb; replace Eu1 := cellK Eu1 hb; replace Eu2 := cellK Eu2 hb; clear hb))
        clear cm_0 cm_1 cm_2 Eu0 Eu1 Eu2
        have cm_0 : w21.cell? ⟨w.heap.size + 1, 0, none⟩ = some (.bool gm) := Blm.at 0 rfl
        have cm_1 : w21.cell? ⟨w.heap.size + 1, 1, none⟩ = some (.slice am nm cm) := Blm.at 1 rfl
        have cm_2 : w21.cell? ⟨w.heap.size + 1, 2, none⟩ = some (.slice Am Nm Dm) := Blm.at 2 rfl
        have fm := Blm.free
        have Lm : w.heap.size + 1 < w21.heap.size := Blm.lt
        go_upto_region 6 with fail
        clear cm_0 cm_1 cm_2 fm Lm
        refine Code.abs ?_
        intro w22 hW
        have hG : Gr [w.heap.size + 1] w21 w22 := by rw [hW]; exact (Gr.refl _ _).set.set.set
        have hsz := hs.size
        have lm := Blm.lt
        have hbw : Below w.heap.size w21 w22 := hG.below1 hs.size (by first | omega | assumption)
        have hk : KeepD w21 w22 := hG.keep ⟨⟨_, Blm.ty, by decide⟩, True.intro⟩
        have Bl1m : Bx w22 (w.heap.size + 1) 40 #[.bool gu, .slice au nu cu, .slice Au Nu Du] := by rw [hW]; exact Blm.set3
        replace hs := hs.trans hbw
        replace Blz := hG.bx Blz (notMem1 (by omega))
        replace Blm := Bl1m
        clear Bl1m
        replace hm := hm.keep hk
        replace hu := hu.keep hk
        clear hW hG hk hbw hsz lm
        go_wp2
        go_roundw
        case rel => exact ⟨j + 1, by omega, by omega, by go_num, hs, ⟨_, _, _, _, _, _, _, Blm, by rw [HST.out, if_pos HQ.out]; exact hu⟩, Blz⟩
        all_goals first | (simp [intOf]; done) | (simp [intOf]; omega)
      · have hsq : ¬ sg < 0 := fun h => hq (hc.1 h)
        have HQ := Lib.hid hq
        clear hq hc
        go_upto_region 7 with fail
        have hb := bDrew wr
        replace hs := bStep hs hb
        replace Blz := Blz.mono hb
        replace Blm := Blm.mono hb
        replace hm := hm.mono hb
        replace hu := hu.mono hb
        replace Eu0 := cellK Eu0 hb
        replace Eu1 := cellK Eu1 hb
        replace Eu2 := cellK Eu2 hb
        clear hb
        have cm_0 : (wr.drew).cell? ⟨w.heap.size + 1, 0, none⟩ = some (.bool gm) := Blm.at 0 rfl
        have cm_1 : (wr.drew).cell? ⟨w.heap.size + 1, 1, none⟩ = some (.slice am nm cm) := Blm.at 1 rfl
        have cm_2 : (wr.drew).cell? ⟨w.heap.size + 1, 2, none⟩ = some (.slice Am Nm Dm) := Blm.at 2 rfl
        go_region_held3 (fun w' => w'.cell? ⟨w.heap.size + 1, 0, none⟩ = some (.bool gm) ∧ w'.cell? ⟨w.heap.size + 1, 1, none⟩ = some (.slice am nm cm) ∧ w'.cell? ⟨w.heap.size + 1, 2, none⟩ = some (.slice Am Nm Dm) ∧ w'.cell? ⟨rb, ro + j * 3, none⟩ = some (.bool gu) ∧ w'.cell? ⟨rb, ro + j * 3 + 1, none⟩ = some (.slice au nu cu) ∧ w'.cell? ⟨rb, ro + j * 3 + 2, none⟩ = some (.slice Au Nu Du))
          (first | exact ⟨cm_0, cm_1, cm_2, Eu0, Eu1, Eu2⟩ | exact ⟨cellA cm_0 _, cellA cm_1 _, cellA cm_2 _, cellA Eu0 _, cellA Eu1 _, cellA Eu2 _⟩ | go_keep)
          (first
            | (go_at_call 21; (with_reducible refine (pCmp hu hm ftu ftm).mono ?_); rintro e w21 ⟨rfl, hb⟩; rw [← HSG.out]; replace hs := bStep hs hb; replace Blz := Blz.mono hb; replace Blm := Blm.mono hb; replace hm := hm.mono hb; replace hu := hu.mono hb; replace cm_0 := cellK cm_0 hb; replace cm_1 := cellK cm_1 hb; replace cm_2 := cellK cm_2 hb; replace Eu0 := cellK Eu0 hb; replace Eu1 := cellK Eu1 hb; replace Eu2 := cellK Eu2 hb; clear hb))
        clear cm_0 cm_1 cm_2 Eu0 Eu1 Eu2
        go_wp2
        go_roundw
        case rel => exact ⟨j + 1, by omega, by omega, by go_num, hs, ⟨_, _, _, _, _, _, _, Blm, by rw [HST.out, if_neg HQ.out]; exact hm⟩, Blz⟩
        all_goals first | (simp [intOf]; done) | (simp [intOf]; omega)
    · have HE := Lib.hid (show mnL L (j - 1) = mnL L (L.length - 1) by rw [show j = L.length by omega])
      have cm_0 : wr.cell? ⟨w.heap.size + 1, 0, none⟩ = some (.bool gm) := Blm.at 0 rfl
      have cm_1 : wr.cell? ⟨w.heap.size + 1, 1, none⟩ = some (.slice am nm cm) := Blm.at 1 rfl
      have cm_2 : wr.cell? ⟨w.heap.size + 1, 2, none⟩ = some (.slice Am Nm Dm) := Blm.at 2 rfl
      have cz_0 : wr.cell? ⟨w.heap.size, 0, none⟩ = some (.bool false) := Blz.at 0 rfl
      have cz_1 : wr.cell? ⟨w.heap.size, 1, none⟩ = some (.slice none 0 0) := Blz.at 1 rfl
      have cz_2 : wr.cell? ⟨w.heap.size, 2, none⟩ = some (.slice none 0 0) := Blz.at 2 rfl
      have fz := Blz.free
      have Lz : w.heap.size < wr.heap.size := Blz.lt
      go_wp2
      refine bodyPost.abs ?_
      intro w21 hW
      have hG : Gr [w.heap.size] wr w21 := by rw [hW]; exact (Gr.refl _ _).set.set.set
      have hsz := hs.size
      have lz := Blz.lt
      have hbw : Below w.heap.size wr w21 := hG.below1 hs.size (by first | omega | assumption)
      have hk : KeepD wr w21 := hG.keep ⟨⟨_, Blz.ty, by decide⟩, True.intro⟩
      have Bl1z : Bx w21 (w.heap.size) 40 #[.bool gm, .slice am nm cm, .slice Am Nm Dm] := by rw [hW]; exact Blz.set3
      replace hs := hs.trans hbw
      replace Blm := hG.bx Blm (notMem1 (by omega))
      replace Blz := Bl1z
      clear Bl1z
      replace hm := hm.keep hk
      clear hW hG hk hbw hsz lz
      exact ret_P rfl rfl rfl Blz (hm.of_eq HE.out) hs

set_option maxRecDepth 100000 in
set_option maxHeartbeats 8000000 in
theorem p_MaxFunc (v : Value) (L : List Rat) (w : World) (hl : Rows 3 40 PC w v L) (h0 : 0 < L.length) (h1 : L.length ≤ 1000) (hf : ∀ i, i < L.length → Fit (nthQ L i)) :
    Calls Tryz.prog 159 #[v, .func (.func 21) #[] #[]] w (RetP w (mxL L (L.length - 1))) := by
  obtain ⟨rb, ro, rc, rfl, hc1, hc2, _⟩ := hl.open_ h0
  have hs := Below.refl w.heap.size w
  have HL := Lib.hid hl
  have HF := Lib.hid hf
  have hrb := hl.lt h0
  clear hl hf
  go_enter Tryz.func159, Tryz.ntmps159
  obtain ⟨gu, au, nu, cu, Au, Nu, Du, Eu0, Eu1, Eu2, hu, hub⟩ := rowP_at HL.out h0
  simp only [Nat.zero_mul, Nat.add_zero] at Eu0 Eu1 Eu2
  go_wp2
  clear Eu0 Eu1 Eu2 hub
  refine Code.abs ?_
  intro w1 hW
  have hG : Gr [] w w1 := by rw [hW]; exact (Gr.refl _ _).alloc.alloc
  have hbw : Below w.heap.size w w1 := hG.below0 hs.size
  have hk : KeepD w w1 := hG.keep True.intro
  have Blz : Bx w1 (w.heap.size) 40 #[.bool false, .slice none 0 0, .slice none 0 0] := by rw [hW]; exact ((Bx.new0 _ _ _).alloc _)
  have Blm : Bx w1 (w.heap.size + 1) 40 #[.bool gu, .slice au nu cu, .slice Au Nu Du] := by rw [hW]; exact (Bx.new0 _ _ _)
  replace hs := hs.trans hbw
  replace hu := hu.keep hk
  clear hW hG hk hbw
  have hz_w1 : w.heap.size + 1 < w1.heap.size := Blm.lt
  go_loopw [6] (fun iv wq => ∃ j : Nat, 1 ≤ j ∧ j ≤ L.length ∧ iv = .int .i64 (j : Int) ∧ Below w.heap.size w wq ∧ BoxP wq (w.heap.size + 1) (mxL L (j - 1)) ∧ Bx wq w.heap.size 40 #[.bool false, .slice none 0 0, .slice none 0 0]) (fun iv _ => L.length - (intOf iv).toNat)
  case atStart => exact ⟨1, Nat.le_refl _, by omega, rfl, hs, ⟨_, _, _, _, _, _, _, Blm, hu⟩, Blz⟩
  case round =>
    clear hs Blm Blz hu
    obtain ⟨j, hj1, hj, rfl, hs, ⟨gm, am, nm, cm, Am, Nm, Dm, Blm, hm⟩, Blz⟩ := hrel
    by_cases hlt : j < L.length
    · obtain ⟨gu, au, nu, cu, Au, Nu, Du, Eu0, Eu1, Eu2, hu, hub⟩ := rowP_at (HL.out.mono PC.kept hs) hlt
      have ftu := HF.out j hlt
      have ftm : Fit (mxL L (j - 1)) := mxL_all HF.out (j - 1) (by omega)
      have HST := Lib.hid (show mxL L (j + 1 - 1) = _ by rw [show j + 1 - 1 = (j - 1) + 1 by omega, mxL_succ, show j - 1 + 1 = j by omega])
      have hc := sq_gt (nthQ L j) (mxL L (j - 1))
      obtain ⟨sg, HSG⟩ : ∃ s : Int, s = sgQ (nthQ L j - mxL L (j - 1)) := ⟨_, rfl⟩
      rw [← HSG] at hc
      replace HSG := Lib.hid HSG
      have bk1 : (0 : Int) ≤ (j : Int) := by omega
      have bk2 : (j : Int) < (L.length : Int) := by omega
      by_cases hq : mxL L (j - 1) < nthQ L j
      · have hsq : 0 < sg := hc.2 hq
        have HQ := Lib.hid hq
        clear hq hc
        go_upto_region 7 with fail
        have hb := bDrew wr
        replace hs := bStep hs hb
        replace Blz := Blz.mono hb
        replace Blm := Blm.mono hb
        replace hm := hm.mono hb
        replace hu := hu.mono hb
        replace Eu0 := cellK Eu0 hb
        replace Eu1 := cellK Eu1 hb
        replace Eu2 := cellK Eu2 hb
        clear hb
        have cm_0 : (wr.drew).cell? ⟨w.heap.size + 1, 0, none⟩ = some (.bool gm) := Blm.at 0 rfl
        have cm_1 : (wr.drew).cell? ⟨w.heap.size + 1, 1, none⟩ = some (.slice am nm cm) := Blm.at 1 rfl
        have cm_2 : (wr.drew).cell? ⟨w.heap.size + 1, 2, none⟩ = some (.slice Am Nm Dm) := Blm.at 2 rfl
        go_region_held3 (fun w' => w'.cell? ⟨w.heap.size + 1, 0, none⟩ = some (.bool gm) ∧ w'.cell? ⟨w.heap.size + 1, 1, none⟩ = some (.slice am nm cm) ∧ w'.cell? ⟨w.heap.size + 1, 2, none⟩ = some (.slice Am Nm Dm) ∧ w'.cell? ⟨rb, ro + j * 3, none⟩ = some (.bool gu) ∧ w'.cell? ⟨rb, ro + j * 3 + 1, none⟩ = some (.slice au nu cu) ∧ w'.cell? ⟨rb, ro + j * 3 + 2, none⟩ = some (.slice Au Nu Du))
          (first | exact ⟨cm_0, cm_1, cm_2, Eu0, Eu1, Eu2⟩ | exact ⟨cellA cm_0 _, cellA cm_1 _, cellA cm_2 _, cellA Eu0 _, cellA Eu1 _, cellA Eu2 _⟩ | go_keep)
          (first
            | (go_at_call 21; (with_reducible refine (pCmp hu hm ftu ftm).mono ?_); rintro e w21 ⟨rfl, hb⟩; rw [← HSG.out]; replace hs := bStep hs hb; replace Blz := Blz.mono hb; replace Blm := Blm.mono hb; replace hm := hm.mono hb; replace hu := hu.mono hb; replace cm_0 := cellK cm_0 hb; replace cm_1 := cellK cm_1 hb; replace cm_2 := cellK cm_2 hb; replace Eu0 := cellK Eu0 hb; replace Eu1 := cellK Eu1 hb; replace Eu2 := cellK Eu2 hb; clear hb))
        clear cm_0 cm_1 cm_2 Eu0 Eu1 Eu2
        have cm_0 : w21.cell? ⟨w.heap.size + 1, 0, none⟩ = some (.bool gm) := Blm.at 0 rfl
        have cm_1 : w21.cell? ⟨w.heap.size + 1, 1, none⟩ = some (.slice am nm cm) := Blm.at 1 rfl
        have cm_2 : w21.cell? ⟨w.heap.size + 1, 2, none⟩ = some (.slice Am Nm Dm) := Blm.at 2 rfl
        have fm := Blm.free
        have Lm : w.heap.size + 1 < w21.heap.size := Blm.lt
        go_upto_region 6 with fail
        clear cm_0 cm_1 cm_2 fm Lm
        refine Code.abs ?_
        intro w22 hW
        have hG : Gr [w.heap.size + 1] w21 w22 := by rw [hW]; exact (Gr.refl _ _).set.set.set
        have hsz := hs.size
        have lm := Blm.lt
        have hbw : Below w.heap.size w21 w22 := hG.below1 hs.size (by first | omega | assumption)
        have hk : KeepD w21 w22 := hG.keep ⟨⟨_, Blm.ty, by decide⟩, True.intro⟩
        have Bl1m : Bx w22 (w.heap.size + 1) 40 #[.bool gu, .slice au nu cu, .slice Au Nu Du] := by rw [hW]; exact Blm.set3
        replace hs := hs.trans hbw
        replace Blz := hG.bx Blz (notMem1 (by omega))
        replace Blm := Bl1m
        clear Bl1m
        replace hm := hm.keep hk
        replace hu := hu.keep hk
        clear hW hG hk hbw hsz lm
        go_wp2
        go_roundw
        case rel => exact ⟨j + 1, by omega, by omega, by go_num, hs, ⟨_, _, _, _, _, _, _, Blm, by rw [HST.out, if_pos HQ.out]; exact hu⟩, Blz⟩
        all_goals first | (simp [intOf]; done) | (simp [intOf]; omega)
      · have hsq : ¬ 0 < sg := fun h => hq (hc.1 h)
        have HQ := Lib.hid hq
        clear hq hc
        go_upto_region 7 with fail
        have hb := bDrew wr
        replace hs := bStep hs hb
        replace Blz := Blz.mono hb
        replace Blm := Blm.mono hb
        replace hm := hm.mono hb
        replace hu := hu.mono hb
        replace Eu0 := cellK Eu0 hb
        replace Eu1 := cellK Eu1 hb
        replace Eu2 := cellK Eu2 hb
        clear hb
        have cm_0 : (wr.drew).cell? ⟨w.heap.size + 1, 0, none⟩ = some (.bool gm) := Blm.at 0 rfl
        have cm_1 : (wr.drew).cell? ⟨w.heap.size + 1, 1, none⟩ = some (.slice am nm cm) := Blm.at 1 rfl
        have cm_2 : (wr.drew).cell? ⟨w.heap.size + 1, 2, none⟩ = some (.slice Am Nm Dm) := Blm.at 2 rfl
        go_region_held3 (fun w' => w'.cell? ⟨w.heap.size + 1, 0, none⟩ = some (.bool gm) ∧ w'.cell? ⟨w.heap.size + 1, 1, none⟩ = some (.slice am nm cm) ∧ w'.cell? ⟨w.heap.size + 1, 2, none⟩ = some (.slice Am Nm Dm) ∧ w'.cell? ⟨rb, ro + j * 3, none⟩ = some (.bool gu) ∧ w'.cell? ⟨rb, ro + j * 3 + 1, none⟩ = some (.slice au nu cu) ∧ w'.cell? ⟨rb, ro + j * 3 + 2, none⟩ = some (.slice Au Nu Du))
          (first | exact ⟨cm_0, cm_1, cm_2, Eu0, Eu1, Eu2⟩ | exact ⟨cellA cm_0 _, cellA cm_1 _, cellA cm_2 _, cellA Eu0 _, cellA Eu1 _, cellA Eu2 _⟩ | go_keep)
          (first
            | (go_at_call 21; (with_reducible refine (pCmp hu hm ftu ftm).mono ?_); rintro e w21 ⟨rfl, hb⟩; rw [← HSG.out]; replace hs := bStep hs hb; replace Blz := Blz.mono hb; replace Blm := Blm.mono hb; replace hm := hm.mono hb; replace hu := hu.mono hb; replace cm_0 := cellK cm_0 hb; replace cm_1 := cellK cm_1 hb; replace cm_2 := cellK cm_2 hb; replace Eu0 := cellK Eu0 hb; replace Eu1 := cellK Eu1 hb; replace Eu2 := cellK Eu2 hb; clear hb))
        clear cm_0 cm_1 cm_2 Eu0 Eu1 Eu2
        go_wp2
        go_roundw
        case rel => exact ⟨j + 1, by omega, by omega, by go_num, hs, ⟨_, _, _, _, _, _, _, Blm, by rw [HST.out, if_neg HQ.out]; exact hm⟩, Blz⟩
        all_goals first | (simp [intOf]; done) | (simp [intOf]; omega)
    · have HE := Lib.hid (show mxL L (j - 1) = mxL L (L.length - 1) by rw [show j = L.length by omega])
      have cm_0 : wr.cell? ⟨w.heap.size + 1, 0, none⟩ = some (.bool gm) := Blm.at 0 rfl
      have cm_1 : wr.cell? ⟨w.heap.size + 1, 1, none⟩ = some (.slice am nm cm) := Blm.at 1 rfl
      have cm_2 : wr.cell? ⟨w.heap.size + 1, 2, none⟩ = some (.slice Am Nm Dm) := Blm.at 2 rfl
      have cz_0 : wr.cell? ⟨w.heap.size, 0, none⟩ = some (.bool false) := Blz.at 0 rfl
      have cz_1 : wr.cell? ⟨w.heap.size, 1, none⟩ = some (.slice none 0 0) := Blz.at 1 rfl
      have cz_2 : wr.cell? ⟨w.heap.size, 2, none⟩ = some (.slice none 0 0) := Blz.at 2 rfl
      have fz := Blz.free
      have Lz : w.heap.size < wr.heap.size := Blz.lt
      go_wp2
      refine bodyPost.abs ?_
      intro w21 hW
      have hG : Gr [w.heap.size] wr w21 := by rw [hW]; exact (Gr.refl _ _).set.set.set
      have hsz := hs.size
      have lz := Blz.lt
      have hbw : Below w.heap.size wr w21 := hG.below1 hs.size (by first | omega | assumption)
      have hk : KeepD wr w21 := hG.keep ⟨⟨_, Blz.ty, by decide⟩, True.intro⟩
      have Bl1z : Bx w21 (w.heap.size) 40 #[.bool gm, .slice am nm cm, .slice Am Nm Dm] := by rw [hW]; exact Blz.set3
      replace hs := hs.trans hbw
      replace Blm := hG.bx Blm (notMem1 (by omega))
      replace Blz := Bl1z
      clear Bl1z
      replace hm := hm.keep hk
      clear hW hG hk hbw hsz lz
      exact ret_P rfl rfl rfl Blz (hm.of_eq HE.out) hs

end Go.Proofs.YtlfnapfnpkhggaaGreat
