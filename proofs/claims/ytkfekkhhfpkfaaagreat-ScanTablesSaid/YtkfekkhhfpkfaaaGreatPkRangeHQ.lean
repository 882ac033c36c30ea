/-
  slices.MinFunc and MaxFunc at the program's fractions, by Ratio.Cmp: the first least one, the first greatest one of a list.
-/
import Derived.Test.YtkfekkhhfpkfaaaGreatPkGrQ
import Derived.Test.YtkfekkhhfpkfaaaGreatPkHeldQ
import Derived.Test.YtkfekkhhfpkfaaaGreatPkRangeQ
set_option linter.unusedSimpArgs false
set_option linter.unusedVariables false
set_option maxRecDepth 100000
set_option maxHeartbeats 8000000
namespace Go.Proofs.YtkfekkhhfpkfaaaGreat
open Go.RowKit Dg
attribute [local go_sem ↓] Go.wp_at_zero Go.wp_at_succ
theorem p_MinFunc (v : Value) (L : List Rat) (w : World) (hl : Rows 3 32 PC w v L) (h0 : 0 < L.length) (h1 : L.length ≤ 1000) (hf : ∀ i, i < L.length → Fit (nthQ L i)) :
  Calls Tryz.prog 172 #[v, .func (.func 18) #[] #[]] w (RetP w (mnL L (L.length - 1))) := by
 obtain ⟨rb, ro, rc, rfl, hc1, hc2, _⟩ := hl.open_ h0
 have hs := Below.refl w.heap.size w
 have HL := Lib.hid hl
 have HF := Lib.hid hf
 have hrb := hl.lt h0
 clear hl hf
 go_enter Tryz.func172, Tryz.ntmps172
 obtain ⟨gu, au, nu, cu, Au, Nu, Du, Eu0, Eu1, Eu2, hu, hub⟩ := rowP_at HL.out h0
 simp only [Nat.zero_mul, Nat.add_zero] at Eu0 Eu1 Eu2
 go_wp2
 clear Eu0 Eu1 Eu2 hub
 refine Code.abs ?_
 intro w1 hW
 have hG : Gr [] w w1 := by rw [hW]; exact (Gr.refl _ _).alloc.alloc
 have hbw : Below w.heap.size w w1 := hG.below0 hs.size
 have hk : KeepD w w1 := hG.keep True.intro
 have Blz : Bx w1 (w.heap.size) 32 #[.bool false, .slice none 0 0, .slice none 0 0] := by rw [hW]; exact ((Bx.new0 _ _ _).alloc _)
 have Blm : Bx w1 (w.heap.size + 1) 32 #[.bool gu, .slice au nu cu, .slice Au Nu Du] := by rw [hW]; exact (Bx.new0 _ _ _)
 replace hs := hs.trans hbw
 replace hu := hu.keep hk
 clear hW hG hk hbw
 have hz_w1 := Blm.lt
 go_loopw [6] (fun iv wq => ∃ j : Nat, 1 ≤ j ∧ j ≤ L.length ∧ iv = .int .i64 (j : Int) ∧ Below w.heap.size w wq ∧ BoxP wq (w.heap.size + 1) (mnL L (j - 1)) ∧ Bx wq w.heap.size 32 #[.bool false, .slice none 0 0, .slice none 0 0]) (fun iv _ => L.length - (intOf iv).toNat)
 case atStart => exact ⟨1, Nat.le_refl _, by omega, rfl, hs, ⟨_, _, _, _, _, _, _, Blm, hu⟩, Blz⟩
 case round =>
  clear hs Blm Blz hu
  obtain ⟨j, hj1, hj, rfl, hs, ⟨gm, am, nm, cm, Am, Nm, Dm, Blm, hm⟩, Blz⟩ := hrel
  by_cases hlt : j < L.length
  ·obtain ⟨gu, au, nu, cu, Au, Nu, Du, Eu0, Eu1, Eu2, hu, hub⟩ := rowP_at (HL.out.mono PC.kept hs) hlt
   have ftu := HF.out j hlt
   have ftm : Fit (mnL L (j - 1)) := mnL_all HF.out (j - 1) (by omega)
   have HST := Lib.hid (show mnL L (j + 1 - 1) = _ by rw [show j + 1 - 1 = (j - 1) + 1 by omega, mnL_succ, show j - 1 + 1 = j by omega])
   have hc := sq_lt (nthQ L j) (mnL L (j - 1))
   obtain ⟨sg, HSG⟩ : ∃ s : Int, s = sgQ (nthQ L j - mnL L (j - 1)) := ⟨_, rfl⟩
   rw [← HSG] at hc
   replace HSG := Lib.hid HSG
   have bk1 : (0 : Int) ≤ (j : Int) := by omega
   have bk2 : (j : Int) < (L.length : Int) := by omega
   by_cases hq : nthQ L j < mnL L (j - 1)
   ·have hsq : sg < 0 := hc.2 hq
    have HQ := Lib.hid hq
    clear hq hc
    go_upto_region 7 with fail
    have hb := bDrew wr
    replace hs := bStep hs hb
    replace Blz := Blz.mono hb
    replace Blm := Blm.mono hb
    replace hm := hm.mono hb
    replace hu := hu.mono hb
    replace Eu0 := cellK Eu0 hb
    replace Eu1 := cellK Eu1 hb
    replace Eu2 := cellK Eu2 hb
    clear hb
    have B0 := Blm.a0
    have B1 := Blm.a1
    have B2 := Blm.a2
    go_region_held3 (fun w' => w'.cell? ⟨w.heap.size + 1, 0, none⟩ = some (.bool gm) ∧ w'.cell? ⟨w.heap.size + 1, 1, none⟩ = some (.slice am nm cm) ∧ w'.cell? ⟨w.heap.size + 1, 2, none⟩ = some (.slice Am Nm Dm) ∧ w'.cell? ⟨rb, ro + j * 3, none⟩ = some (.bool gu) ∧ w'.cell? ⟨rb, ro + j * 3 + 1, none⟩ = some (.slice au nu cu) ∧ w'.cell? ⟨rb, ro + j * 3 + 2, none⟩ = some (.slice Au Nu Du))
     (first | exact ⟨B0, B1, B2, Eu0, Eu1, Eu2⟩ | exact ⟨cellA B0 _, cellA B1 _, cellA B2 _, cellA Eu0 _, cellA Eu1 _, cellA Eu2 _⟩ | go_keep)
     (first
      | (go_at_call 18; (with_reducible refine (pCmp hu hm ftu ftm).mono ?_); rintro e w21 ⟨rfl, hb⟩; rw [← HSG.out]; replace hs := bStep hs hb; replace Blz := Blz.mono hb; replace Blm := Blm.mono hb; replace hm := hm.mono hb; replace hu := hu.mono hb; replace B0 := cellK B0 hb; replace B1 := cellK B1 hb; replace B2 := cellK B2 hb; replace Eu0 := cellK Eu0 hb; replace Eu1 := cellK Eu1 hb; replace Eu2 := cellK Eu2 hb; clear hb))
    clear B0 B1 B2 Eu0 Eu1 Eu2
    have B0 := Blm.a0
    have B1 := Blm.a1
    have B2 := Blm.a2
    have fm := Blm.free
    have Lm := Blm.lt
    go_upto_region 6 with fail
    clear B0 B1 B2 fm Lm
    refine Code.abs ?_
    intro w22 hW
    have hG : Gr [w.heap.size + 1] w21 w22 := by rw [hW]; exact (Gr.refl _ _).set.set.set
    have hsz := hs.size
    have lm := Blm.lt
    have hbw : Below w.heap.size w21 w22 := hG.below1 hs.size (by first | omega | assumption)
    have hk : KeepD w21 w22 := hG.keep ⟨⟨_, Blm.ty, by decide⟩, True.intro⟩
    have Bl1m : Bx w22 (w.heap.size + 1) 32 #[.bool gu, .slice au nu cu, .slice Au Nu Du] := by rw [hW]; exact Blm.set3
    replace hs := hs.trans hbw
    replace Blz := hG.bx Blz (notMem1 (by omega))
    replace Blm := Bl1m
    clear Bl1m
    replace hm := hm.keep hk
    replace hu := hu.keep hk
    clear hW hG hk hbw hsz lm
    go_wp2
    go_roundw
    case rel => exact ⟨j + 1, by omega, by omega, by go_num, hs, ⟨_, _, _, _, _, _, _, Blm, by rw [HST.out, if_pos HQ.out]; exact hu⟩, Blz⟩
    all_goals first | (simp [intOf]; done) | (simp [intOf]; omega)
   ·have hsq : ¬ sg < 0 := fun h => hq (hc.1 h)
    have HQ := Lib.hid hq
    clear hq hc
    go_upto_region 7 with fail
    have hb := bDrew wr
    replace hs := bStep hs hb
    replace Blz := Blz.mono hb
    replace Blm := Blm.mono hb
    replace hm := hm.mono hb
    replace hu := hu.mono hb
    replace Eu0 := cellK Eu0 hb
    replace Eu1 := cellK Eu1 hb
    replace Eu2 := cellK Eu2 hb
    clear hb
    have B0 := Blm.a0
    have B1 := Blm.a1
    have B2 := Blm.a2
    go_region_held3 (fun w' => w'.cell? ⟨w.heap.size + 1, 0, none⟩ = some (.bool gm) ∧ w'.cell? ⟨w.heap.size + 1, 1, none⟩ = some (.slice am nm cm) ∧ w'.cell? ⟨w.heap.size + 1, 2, none⟩ = some (.slice Am Nm Dm) ∧ w'.cell? ⟨rb, ro + j * 3, none⟩ = some (.bool gu) ∧ w'.cell? ⟨rb, ro + j * 3 + 1, none⟩ = some (.slice au nu cu) ∧ w'.cell? ⟨rb, ro + j * 3 + 2, none⟩ = some (.slice Au Nu Du))
     (first | exact ⟨B0, B1, B2, Eu0, Eu1, Eu2⟩ | exact ⟨cellA B0 _, cellA B1 _, cellA B2 _, cellA Eu0 _, cellA Eu1 _, cellA Eu2 _⟩ | go_keep)
     (first
      | (go_at_call 18; (with_reducible refine (pCmp hu hm ftu ftm).mono ?_); rintro e w21 ⟨rfl, hb⟩; rw [← HSG.out]; replace hs := bStep hs hb; replace Blz := Blz.mono hb; replace Blm := Blm.mono hb; replace hm := hm.mono hb; replace hu := hu.mono hb; replace B0 := cellK B0 hb; replace B1 := cellK B1 hb; replace B2 := cellK B2 hb; replace Eu0 := cellK Eu0 hb; replace Eu1 := cellK Eu1 hb; replace Eu2 := cellK Eu2 hb; clear hb))
    clear B0 B1 B2 Eu0 Eu1 Eu2
    go_wp2
    go_roundw
    case rel => exact ⟨j + 1, by omega, by omega, by go_num, hs, ⟨_, _, _, _, _, _, _, Blm, by rw [HST.out, if_neg HQ.out]; exact hm⟩, Blz⟩
    all_goals first | (simp [intOf]; done) | (simp [intOf]; omega)
  ·have HE := Lib.hid (show mnL L (j - 1) = mnL L (L.length - 1) by rw [show j = L.length by omega])
   have B0 := Blm.a0
   have B1 := Blm.a1
   have B2 := Blm.a2
   have B3 := Blz.a0
   have B4 := Blz.a1
   have B5 := Blz.a2
   have fz := Blz.free
   have Lz := Blz.lt
   go_wp2
   refine bodyPost.abs ?_
   intro w21 hW
   have hG : Gr [w.heap.size] wr w21 := by rw [hW]; exact (Gr.refl _ _).set.set.set
   have hsz := hs.size
   have lz := Blz.lt
   have hbw : Below w.heap.size wr w21 := hG.below1 hs.size (by first | omega | assumption)
   have hk : KeepD wr w21 := hG.keep ⟨⟨_, Blz.ty, by decide⟩, True.intro⟩
   have Bl1z : Bx w21 (w.heap.size) 32 #[.bool gm, .slice am nm cm, .slice Am Nm Dm] := by rw [hW]; exact Blz.set3
   replace hs := hs.trans hbw
   replace Blm := hG.bx Blm (notMem1 (by omega))
   replace Blz := Bl1z
   clear Bl1z
   replace hm := hm.keep hk
   clear hW hG hk hbw hsz lz
   exact ret_P rfl rfl rfl Blz (hm.of_eq HE.out) hs
theorem p_MaxFunc (v : Value) (L : List Rat) (w : World) (hl : Rows 3 32 PC w v L) (h0 : 0 < L.length) (h1 : L.length ≤ 1000) (hf : ∀ i, i < L.length → Fit (nthQ L i)) :
  Calls Tryz.prog 173 #[v, .func (.func 18) #[] #[]] w (RetP w (mxL L (L.length - 1))) := by
 obtain ⟨rb, ro, rc, rfl, hc1, hc2, _⟩ := hl.open_ h0
 have hs := Below.refl w.heap.size w
 have HL := Lib.hid hl
 have HF := Lib.hid hf
 have hrb := hl.lt h0
 clear hl hf
 go_enter Tryz.func173, Tryz.ntmps173
 obtain ⟨gu, au, nu, cu, Au, Nu, Du, Eu0, Eu1, Eu2, hu, hub⟩ := rowP_at HL.out h0
 simp only [Nat.zero_mul, Nat.add_zero] at Eu0 Eu1 Eu2
 go_wp2
 clear Eu0 Eu1 Eu2 hub
 refine Code.abs ?_
 intro w1 hW
 have hG : Gr [] w w1 := by rw [hW]; exact (Gr.refl _ _).alloc.alloc
 have hbw : Below w.heap.size w w1 := hG.below0 hs.size
 have hk : KeepD w w1 := hG.keep True.intro
 have Blz : Bx w1 (w.heap.size) 32 #[.bool false, .slice none 0 0, .slice none 0 0] := by rw [hW]; exact ((Bx.new0 _ _ _).alloc _)
 have Blm : Bx w1 (w.heap.size + 1) 32 #[.bool gu, .slice au nu cu, .slice Au Nu Du] := by rw [hW]; exact (Bx.new0 _ _ _)
 replace hs := hs.trans hbw
 replace hu := hu.keep hk
 clear hW hG hk hbw
 have hz_w1 := Blm.lt
 go_loopw [6] (fun iv wq => ∃ j : Nat, 1 ≤ j ∧ j ≤ L.length ∧ iv = .int .i64 (j : Int) ∧ Below w.heap.size w wq ∧ BoxP wq (w.heap.size + 1) (mxL L (j - 1)) ∧ Bx wq w.heap.size 32 #[.bool false, .slice none 0 0, .slice none 0 0]) (fun iv _ => L.length - (intOf iv).toNat)
 case atStart => exact ⟨1, Nat.le_refl _, by omega, rfl, hs, ⟨_, _, _, _, _, _, _, Blm, hu⟩, Blz⟩
 case round =>
  clear hs Blm Blz hu
  obtain ⟨j, hj1, hj, rfl, hs, ⟨gm, am, nm, cm, Am, Nm, Dm, Blm, hm⟩, Blz⟩ := hrel
  by_cases hlt : j < L.length
  ·obtain ⟨gu, au, nu, cu, Au, Nu, Du, Eu0, Eu1, Eu2, hu, hub⟩ := rowP_at (HL.out.mono PC.kept hs) hlt
   have ftu := HF.out j hlt
   have ftm : Fit (mxL L (j - 1)) := mxL_all HF.out (j - 1) (by omega)
   have HST := Lib.hid (show mxL L (j + 1 - 1) = _ by rw [show j + 1 - 1 = (j - 1) + 1 by omega, mxL_succ, show j - 1 + 1 = j by omega])
   have hc := sq_gt (nthQ L j) (mxL L (j - 1))
   obtain ⟨sg, HSG⟩ : ∃ s : Int, s = sgQ (nthQ L j - mxL L (j - 1)) := ⟨_, rfl⟩
   rw [← HSG] at hc
   replace HSG := Lib.hid HSG
   have bk1 : (0 : Int) ≤ (j : Int) := by omega
   have bk2 : (j : Int) < (L.length : Int) := by omega
   by_cases hq : mxL L (j - 1) < nthQ L j
   ·have hsq : 0 < sg := hc.2 hq
    have HQ := Lib.hid hq
    clear hq hc
    go_upto_region 7 with fail
    have hb := bDrew wr
    replace hs := bStep hs hb
    replace Blz := Blz.mono hb
    replace Blm := Blm.mono hb
    replace hm := hm.mono hb
    replace hu := hu.mono hb
    replace Eu0 := cellK Eu0 hb
    replace Eu1 := cellK Eu1 hb
    replace Eu2 := cellK Eu2 hb
    clear hb
    have B0 := Blm.a0
    have B1 := Blm.a1
    have B2 := Blm.a2
    go_region_held3 (fun w' => w'.cell? ⟨w.heap.size + 1, 0, none⟩ = some (.bool gm) ∧ w'.cell? ⟨w.heap.size + 1, 1, none⟩ = some (.slice am nm cm) ∧ w'.cell? ⟨w.heap.size + 1, 2, none⟩ = some (.slice Am Nm Dm) ∧ w'.cell? ⟨rb, ro + j * 3, none⟩ = some (.bool gu) ∧ w'.cell? ⟨rb, ro + j * 3 + 1, none⟩ = some (.slice au nu cu) ∧ w'.cell? ⟨rb, ro + j * 3 + 2, none⟩ = some (.slice Au Nu Du))
     (first | exact ⟨B0, B1, B2, Eu0, Eu1, Eu2⟩ | exact ⟨cellA B0 _, cellA B1 _, cellA B2 _, cellA Eu0 _, cellA Eu1 _, cellA Eu2 _⟩ | go_keep)
     (first
      | (go_at_call 18; (with_reducible refine (pCmp hu hm ftu ftm).mono ?_); rintro e w21 ⟨rfl, hb⟩; rw [← HSG.out]; replace hs := bStep hs hb; replace Blz := Blz.mono hb; replace Blm := Blm.mono hb; replace hm := hm.mono hb; replace hu := hu.mono hb; replace B0 := cellK B0 hb; replace B1 := cellK B1 hb; replace B2 := cellK B2 hb; replace Eu0 := cellK Eu0 hb; replace Eu1 := cellK Eu1 hb; replace Eu2 := cellK Eu2 hb; clear hb))
    clear B0 B1 B2 Eu0 Eu1 Eu2
    have B0 := Blm.a0
    have B1 := Blm.a1
    have B2 := Blm.a2
    have fm := Blm.free
    have Lm := Blm.lt
    go_upto_region 6 with fail
    clear B0 B1 B2 fm Lm
    refine Code.abs ?_
    intro w22 hW
    have hG : Gr [w.heap.size + 1] w21 w22 := by rw [hW]; exact (Gr.refl _ _).set.set.set
    have hsz := hs.size
    have lm := Blm.lt
    have hbw : Below w.heap.size w21 w22 := hG.below1 hs.size (by first | omega | assumption)
    have hk : KeepD w21 w22 := hG.keep ⟨⟨_, Blm.ty, by decide⟩, True.intro⟩
    have Bl1m : Bx w22 (w.heap.size + 1) 32 #[.bool gu, .slice au nu cu, .slice Au Nu Du] := by rw [hW]; exact Blm.set3
    replace hs := hs.trans hbw
    replace Blz := hG.bx Blz (notMem1 (by omega))
    replace Blm := Bl1m
    clear Bl1m
    replace hm := hm.keep hk
    replace hu := hu.keep hk
    clear hW hG hk hbw hsz lm
    go_wp2
    go_roundw
    case rel => exact ⟨j + 1, by omega, by omega, by go_num, hs, ⟨_, _, _, _, _, _, _, Blm, by rw [HST.out, if_pos HQ.out]; exact hu⟩, Blz⟩
    all_goals first | (simp [intOf]; done) | (simp [intOf]; omega)
   ·have hsq : ¬ 0 < sg := fun h => hq (hc.1 h)
    have HQ := Lib.hid hq
    clear hq hc
    go_upto_region 7 with fail
    have hb := bDrew wr
    replace hs := bStep hs hb
    replace Blz := Blz.mono hb
    replace Blm := Blm.mono hb
    replace hm := hm.mono hb
    replace hu := hu.mono hb
    replace Eu0 := cellK Eu0 hb
    replace Eu1 := cellK Eu1 hb
    replace Eu2 := cellK Eu2 hb
    clear hb
    have B0 := Blm.a0
    have B1 := Blm.a1
    have B2 := Blm.a2
    go_region_held3 (fun w' => w'.cell? ⟨w.heap.size + 1, 0, none⟩ = some (.bool gm) ∧ w'.cell? ⟨w.heap.size + 1, 1, none⟩ = some (.slice am nm cm) ∧ w'.cell? ⟨w.heap.size + 1, 2, none⟩ = some (.slice Am Nm Dm) ∧ w'.cell? ⟨rb, ro + j * 3, none⟩ = some (.bool gu) ∧ w'.cell? ⟨rb, ro + j * 3 + 1, none⟩ = some (.slice au nu cu) ∧ w'.cell? ⟨rb, ro + j * 3 + 2, none⟩ = some (.slice Au Nu Du))
     (first | exact ⟨B0, B1, B2, Eu0, Eu1, Eu2⟩ | exact ⟨cellA B0 _, cellA B1 _, cellA B2 _, cellA Eu0 _, cellA Eu1 _, cellA Eu2 _⟩ | go_keep)
     (first
      | (go_at_call 18; (with_reducible refine (pCmp hu hm ftu ftm).mono ?_); rintro e w21 ⟨rfl, hb⟩; rw [← HSG.out]; replace hs := bStep hs hb; replace Blz := Blz.mono hb; replace Blm := Blm.mono hb; replace hm := hm.mono hb; replace hu := hu.mono hb; replace B0 := cellK B0 hb; replace B1 := cellK B1 hb; replace B2 := cellK B2 hb; replace Eu0 := cellK Eu0 hb; replace Eu1 := cellK Eu1 hb; replace Eu2 := cellK Eu2 hb; clear hb))
    clear B0 B1 B2 Eu0 Eu1 Eu2
    go_wp2
    go_roundw
    case rel => exact ⟨j + 1, by omega, by omega, by go_num, hs, ⟨_, _, _, _, _, _, _, Blm, by rw [HST.out, if_neg HQ.out]; exact hm⟩, Blz⟩
    all_goals first | (simp [intOf]; done) | (simp [intOf]; omega)
  ·have HE := Lib.hid (show mxL L (j - 1) = mxL L (L.length - 1) by rw [show j = L.length by omega])
   have B0 := Blm.a0
   have B1 := Blm.a1
   have B2 := Blm.a2
   have B3 := Blz.a0
   have B4 := Blz.a1
   have B5 := Blz.a2
   have fz := Blz.free
   have Lz := Blz.lt
   go_wp2
   refine bodyPost.abs ?_
   intro w21 hW
   have hG : Gr [w.heap.size] wr w21 := by rw [hW]; exact (Gr.refl _ _).set.set.set
   have hsz := hs.size
   have lz := Blz.lt
   have hbw : Below w.heap.size wr w21 := hG.below1 hs.size (by first | omega | assumption)
   have hk : KeepD wr w21 := hG.keep ⟨⟨_, Blz.ty, by decide⟩, True.intro⟩
   have Bl1z : Bx w21 (w.heap.size) 32 #[.bool gm, .slice am nm cm, .slice Am Nm Dm] := by rw [hW]; exact Blz.set3
   replace hs := hs.trans hbw
   replace Blm := hG.bx Blm (notMem1 (by omega))
   replace Blz := Bl1z
   clear Bl1z
   replace hm := hm.keep hk
   clear hW hG hk hbw hsz lz
   exact ret_P rfl rfl rfl Blz (hm.of_eq HE.out) hs
end Go.Proofs.YtkfekkhhfpkfaaaGreat
namespace Go.Proofs.YtkfekkhhfpkfaaaGreat
open Go.RowKit Dg
attribute [local go_sem ↓] Go.wp_at_zero Go.wp_at_succ
theorem rows4P {w : World} {g : Nat} {a0 b0 c0 a1 b1 c1 a2 b2 c2 a3 b3 c3 : Value} {x0 x1 x2 x3 : Rat} (h : Bx w g 32 #[a0, b0, c0, a1, b1, c1, a2, b2, c2, a3, b3, c3]) (h0 : PV w (.agg #[a0, b0, c0]) x0) (h1 : PV w (.agg #[a1, b1, c1]) x1) (h2 : PV w (.agg #[a2, b2, c2]) x2) (h3 : PV w (.agg #[a3, b3, c3]) x3) : Rows 3 32 PC w (.slice (some ⟨g, 0, none⟩) 4 4) [x0, x1, x2, x3] := by
 refine ⟨_, 4, rfl, Nat.le_refl _, by show 4 ≤ _; omega, (fun e => by cases e), (fun a ea _ => by cases ea; exact h.ty), fun i x hx => ?_⟩
 match i, hx with
 | 0, hx => cases hx; exact ⟨g, 0, [a0, b0, c0], rfl, rfl, (fun j u hu => by match j, hu with | 0, hu => cases hu; exact h.at 0 rfl | 1, hu => cases hu; exact h.at 1 rfl | 2, hu => cases hu; exact h.at 2 rfl), ⟨_, _, _, rfl, h0⟩⟩
 | 1, hx => cases hx; exact ⟨g, 0, [a1, b1, c1], rfl, rfl, (fun j u hu => by match j, hu with | 0, hu => cases hu; exact h.at 3 rfl | 1, hu => cases hu; exact h.at 4 rfl | 2, hu => cases hu; exact h.at 5 rfl), ⟨_, _, _, rfl, h1⟩⟩
 | 2, hx => cases hx; exact ⟨g, 0, [a2, b2, c2], rfl, rfl, (fun j u hu => by match j, hu with | 0, hu => cases hu; exact h.at 6 rfl | 1, hu => cases hu; exact h.at 7 rfl | 2, hu => cases hu; exact h.at 8 rfl), ⟨_, _, _, rfl, h2⟩⟩
 | 3, hx => cases hx; exact ⟨g, 0, [a3, b3, c3], rfl, rfl, (fun j u hu => by match j, hu with | 0, hu => cases hu; exact h.at 9 rfl | 1, hu => cases hu; exact h.at 10 rfl | 2, hu => cases hu; exact h.at 11 rfl), ⟨_, _, _, rfl, h3⟩⟩
theorem fit4 {x y z u : Rat} (hx : Fit x) (hy : Fit y) (hz : Fit z) (hu : Fit u) : ∀ i, i < [x, y, z, u].length → Fit (nthQ [x, y, z, u] i) := by
 intro i hi
 match i, hi with
 | 0, _ => exact hx
 | 1, _ => exact hy
 | 2, _ => exact hz
 | 3, _ => exact hu
theorem p_around (v : Value) (L : List Rat) (w : World) (hl : Rows 3 32 PC w v L) (hn0 : 0 < L.length) (hn1 : L.length ≤ 1000) (hf : ∀ i, i < L.length → Fit (nthQ L i)) :
  Calls Tryz.prog 135 #[v] w (Ret1 (fun w v => PV2 w v (mnL L (L.length - 1)) (mxL L (L.length - 1))) w) := by
 obtain ⟨rb, ro, rc, rfl, hc1, hc2, -⟩ := hl.open_ hn0
 have hs := Below.refl w.heap.size w
 have HL := Lib.hid hl
 have HF := Lib.hid hf
 clear hl hf
 go_enter Tryz.func135, Tryz.ntmps135
 go_wp2_with fail
 refine Calls.abs ?_
 intro w1 hW
 have hG : Gr [] w w1 := by rw [hW]; exact (Gr.refl _ _).alloc
 have B0 : Below w.heap.size w w1 := hG.below0 hs.size
 have hk : KeepD w w1 := hG.keep True.intro
 have Bq : w.heap.size ≤ w.heap.size := hs.size
 have Blk : Bx w1 (w.heap.size) 85 #[.bool false, .slice none 0 0, .slice none 0 0, .bool false, .slice none 0 0, .slice none 0 0] := by rw [hW]; exact (Bx.new0 _ _ _)
 replace hs := hs.trans B0
 clear hW hG hk B0
 have Bp := Blk.lt
 refine (p_MinFunc _ L _ (HL.out.mono PC.kept hs) hn0 hn1 HF.out).mono ?_
 rintro e w2 ⟨_, rfl, h1, hb⟩
 obtain ⟨sh1, ah1, nh1, ch1, Ah1, Nh1, Ch1, rfl⟩ := h1.shape
 replace hs := bStep hs hb
 replace Blk := Blk.mono hb
 clear hb
 go_wp2_with fail
 refine (p_MaxFunc _ L _ (HL.out.mono PC.kept hs) hn0 hn1 HF.out).mono ?_
 rintro e w3 ⟨_, rfl, h2, hb⟩
 obtain ⟨sh2, ah2, nh2, ch2, Ah2, Nh2, Ch2, rfl⟩ := h2.shape
 replace hs := bStep hs hb
 replace Blk := Blk.mono hb
 replace h1 := h1.mono hb
 clear hb
 have B1 := Blk.a0
 have B2 := Blk.a1
 have B3 := Blk.a2
 have B4 := Blk.a3
 have B5 := Blk.a4
 have B6 := Blk.a5
 have fk := Blk.free
 have Lk := Blk.lt
 go_wp2
 clear B1 B2 B3 B4 B5 B6 fk Lk
 refine bodyPost.abs ?_
 intro w4 hW
 have hG : Gr [w.heap.size] w3 w4 := by rw [hW]; exact (Gr.refl _ _).set.set.set.set.set.set
 have hsz := hs.size
 have lk := Blk.lt
 have B0 : Below w.heap.size w3 w4 := hG.below1 hs.size (by first | omega | assumption)
 have hk : KeepD w3 w4 := hG.keep ⟨⟨_, Blk.ty, by decide⟩, True.intro⟩
 have B8 : Bx w4 (w.heap.size) 85 #[.bool sh1, .slice ah1 nh1 ch1, .slice Ah1 Nh1 Ch1, .bool sh2, .slice ah2 nh2 ch2, .slice Ah2 Nh2 Ch2] := by rw [hW]; exact Blk.set6
 replace hs := hs.trans B0
 replace Blk := B8
 clear B8
 replace h1 := h1.keep hk
 replace h2 := h2.keep hk
 clear hW hG hk B0 hsz lk
 have B1 := Blk.a0
 have B2 := Blk.a1
 have B3 := Blk.a2
 have B4 := Blk.a3
 have B5 := Blk.a4
 have B6 := Blk.a5
 exact bodyPost_ret (v := .agg #[.bool sh1, .slice ah1 nh1 ch1, .slice Ah1 Nh1 Ch1, .bool sh2, .slice ah2 nh2 ch2, .slice Ah2 Nh2 Ch2]) (by simp [results, Tryz.results135, go_sem, B1, B2, B3, B4, B5, B6]) rfl ⟨_, rfl, PV2.mk h1 h2, hs⟩
theorem p_Hull (vxy : Value) (x y : Rat) (vzu : Value) (z u : Rat) (w : World) (hxy : PV2 w vxy x y) (sx : Mid x) (sy : Mid y) (hzu : PV2 w vzu z u) (sz : Mid z) (su : Mid u) :
  Calls Tryz.prog 91 #[vxy, vzu] w (Ret1 (fun w v => PV2 w v (mnL [x, y, z, u] 3) (mxL [x, y, z, u] 3)) w) := by
 obtain ⟨shx, ahx, nhx, chx, Ahx, Nhx, Chx, shy, ahy, nhy, chy, Ahy, Nhy, Chy, rfl, hx, hy⟩ := hxy.shape
 clear hxy
 obtain ⟨shz, ahz, nhz, chz, Ahz, Nhz, Chz, shu, ahu, nhu, chu, Ahu, Nhu, Chu, rfl, hz, hu⟩ := hzu.shape
 clear hzu
 have hs := Below.refl w.heap.size w
 go_enter Tryz.func91, Tryz.ntmps91
 go_wp2_with fail
 refine Calls.abs ?_
 intro w1 hW
 have hG : Gr [] w w1 := by rw [hW]; exact (Gr.refl _ _).alloc.alloc.alloc.alloc
 have B0 : Below w.heap.size w w1 := hG.below0 hs.size
 have hk : KeepD w w1 := hG.keep True.intro
 have Bq : w.heap.size ≤ w.heap.size := hs.size
 have Bn : Bx w1 (w.heap.size) 85 #[.bool shx, .slice ahx nhx chx, .slice Ahx Nhx Chx, .bool shy, .slice ahy nhy chy, .slice Ahy Nhy Chy] := by rw [hW]; exact ((((Bx.new0 _ _ _).alloc _).alloc _).alloc _)
 have Bo : Bx w1 (w.heap.size + 1) 85 #[.bool shz, .slice ahz nhz chz, .slice Ahz Nhz Chz, .bool shu, .slice ahu nhu chu, .slice Ahu Nhu Chu] := by rw [hW]; exact (((Bx.new0 _ _ _).alloc _).alloc _)
 have Blk : Bx w1 (w.heap.size + 1 + 1) 85 #[.bool false, .slice none 0 0, .slice none 0 0, .bool false, .slice none 0 0, .slice none 0 0] := by rw [hW]; exact ((Bx.new0 _ _ _).alloc _)
 have B7 : Bx w1 (w.heap.size + 1 + 1 + 1) 32 #[.bool shx, .slice ahx nhx chx, .slice Ahx Nhx Chx, .bool shy, .slice ahy nhy chy, .slice Ahy Nhy Chy, .bool shz, .slice ahz nhz chz, .slice Ahz Nhz Chz, .bool shu, .slice ahu nhu chu, .slice Ahu Nhu Chu] := by rw [hW]; exact (Bx.new0 _ _ _)
 replace hs := hs.trans B0
 replace hx := hx.keep hk
 replace hy := hy.keep hk
 replace hz := hz.keep hk
 replace hu := hu.keep hk
 clear hW hG hk B0
 have Bp := B7.lt
 refine (p_around _ [x, y, z, u] _ (rows4P B7 hx hy hz hu) (by simp) (by simp) (fit4 (SzQ.fit sx) (SzQ.fit sy) (SzQ.fit sz) (SzQ.fit su))).mono ?_
 rintro e w2 ⟨_, rfl, h1, hb⟩
 obtain ⟨Bl, Bf, Bj, Bh, B9, Bd, Bb, Bm, Bg, Bk, Bi, Ba, Be, Bc, rfl, h1a, h1b⟩ := h1.shape
 replace hs := bStep hs hb
 replace Bn := Bn.mono hb
 replace Bo := Bo.mono hb
 replace Blk := Blk.mono hb
 replace B7 := B7.mono hb
 replace hx := hx.mono hb
 replace hy := hy.mono hb
 replace hz := hz.mono hb
 replace hu := hu.mono hb
 clear hb
 have B1 := Blk.a0
 have B2 := Blk.a1
 have B3 := Blk.a2
 have B4 := Blk.a3
 have B5 := Blk.a4
 have B6 := Blk.a5
 have fk := Blk.free
 have Lk := Blk.lt
 go_wp2
 clear B1 B2 B3 B4 B5 B6 fk Lk
 refine bodyPost.abs ?_
 intro w3 hW
 have hG : Gr [w.heap.size + 1 + 1] w2 w3 := by rw [hW]; exact (Gr.refl _ _).set.set.set.set.set.set
 have hsz := hs.size
 have lk := Blk.lt
 have B0 : Below w.heap.size w2 w3 := hG.below1 hs.size (by first | omega | assumption)
 have hk : KeepD w2 w3 := hG.keep ⟨⟨_, Blk.ty, by decide⟩, True.intro⟩
 have B8 : Bx w3 (w.heap.size + 1 + 1) 85 #[.bool Bl, .slice Bf Bj Bh, .slice B9 Bd Bb, .bool Bm, .slice Bg Bk Bi, .slice Ba Be Bc] := by rw [hW]; exact Blk.set6
 replace hs := hs.trans B0
 replace Bn := hG.bx Bn (notMem1 (by omega))
 replace Bo := hG.bx Bo (notMem1 (by omega))
 replace B7 := hG.bx B7 (notMem1 (by omega))
 replace Blk := B8
 clear B8
 replace hx := hx.keep hk
 replace hy := hy.keep hk
 replace hz := hz.keep hk
 replace hu := hu.keep hk
 replace h1a := h1a.keep hk
 replace h1b := h1b.keep hk
 clear hW hG hk B0 hsz lk
 have B1 := Blk.a0
 have B2 := Blk.a1
 have B3 := Blk.a2
 have B4 := Blk.a3
 have B5 := Blk.a4
 have B6 := Blk.a5
 exact bodyPost_ret (v := .agg #[.bool Bl, .slice Bf Bj Bh, .slice B9 Bd Bb, .bool Bm, .slice Bg Bk Bi, .slice Ba Be Bc]) (by simp [results, Tryz.results91, go_sem, B1, B2, B3, B4, B5, B6]) rfl ⟨_, rfl, (PV2.mk h1a h1b), hs⟩
end Go.Proofs.YtkfekkhhfpkfaaaGreat
