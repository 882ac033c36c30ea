/-
  The reference's Plies.
-/
import Derived.Test.YtlfnapfnpkhggaaGreatPlies
import Derived.Test.YtlfnapfnpkhggaaGreatRangeR
set_option linter.unusedSimpArgs false
set_option linter.unusedVariables false
namespace Go.Proofs.YtlfnapfnpkhggaaGreat
open Go.RowKit Dg
attribute [local go_sem ↓] Go.wp_at_zero Go.wp_at_succ

set_option maxRecDepth 100000 in
set_option maxHeartbeats 16000000 in
theorem r7_Plies_ok (v vr : Value) (L : List Rat) (lo hi : Rat) (w : World) (hl : Rows 3 45 RC w v L) (h1 : 1 ≤ L.length) (h12 : L.length ≤ 12) (hap : allPos L = true) (hz : ∀ i, i < L.length → SzQ 50000 (nthQ L i))
    (hr : RV2 w vr lo hi) (slo : Mid lo) (shi : Mid hi) :
    Calls Tryz.prog 41 #[v, vr] w (RetV w (plR L lo hi)) := by
  obtain ⟨rb, ro, rc, rfl, hc1, hc2, -⟩ := hl.open_ (by omega)
  have hs := Below.refl w.heap.size w
  have HL := Lib.hid hl
  have HZ := Lib.hid hz
  have HAP := Lib.hid hap
  have HTM := Lib.hid (topQ_mid hz h12)
  clear hl hz hap
  obtain ⟨shlo, ahlo, nhlo, chlo, Ahlo, Nhlo, Chlo, shhi, ahhi, nhhi, chhi, Ahhi, Nhhi, Chhi, rfl, hlo, hhi⟩ := hr.shape
  clear hr
  go_enter Tryz.func41, Tryz.ntmps41
  have q1 : ¬ (L.length < 1) := by omega
  have q1d : ((L.length : Int) < 1) = False := eq_false (by omega)
  have q2 : ¬ (12 < L.length) := by omega
  have q2d : ((12 : Int) < (L.length : Int)) = False := eq_false (by omega)
  go_wp2
  refine Code.abs ?_
  intro w1 hW
  have hG : Gr [] w w1 := by rw [hW]; exact (Gr.refl _ _).alloc
  have hbw : Below w.heap.size w w1 := hG.below0 hs.size
  have hk : KeepD w w1 := hG.keep True.intro
  have sz_w1 : w.heap.size ≤ w.heap.size := hs.size
  have Bldepth : Bx w1 (w.heap.size) 88 #[.bool shlo, .slice ahlo nhlo chlo, .slice Ahlo Nhlo Chlo, .bool shhi, .slice ahhi nhhi chhi, .slice Ahhi Nhhi Chhi] := by rw [hW]; exact (Bx.new0 _ _ _)
  replace hs := hs.trans hbw
  replace hlo := hlo.keep hk
  replace hhi := hhi.keep hk
  clear hW hG hk hbw
  have hz_w1 : w.heap.size < w1.heap.size := Bldepth.lt
  go_loopw [7] (fun s7 wq => ∃ i : Nat, i ≤ L.length ∧ s7 = .int .i64 i ∧ Below w.heap.size w wq ∧ Bx wq (w.heap.size) 88 #[.bool shlo, .slice ahlo nhlo chlo, .slice Ahlo Nhlo Chlo, .bool shhi, .slice ahhi nhhi chhi, .slice Ahhi Nhhi Chhi] ∧ RV wq (.agg #[.bool shlo, .slice ahlo nhlo chlo, .slice Ahlo Nhlo Chlo]) (lo) ∧ RV wq (.agg #[.bool shhi, .slice ahhi nhhi chhi, .slice Ahhi Nhhi Chhi]) (hi)) (fun s7 _ => L.length - (intOf s7).toNat)
  case atStart => exact ⟨0, Nat.zero_le _, rfl, hs, Bldepth, hlo, hhi⟩
  case round =>
    clear Bldepth hlo hhi hs
    obtain ⟨i, k_le, rfl, hs, Bldepth, hlo, hhi⟩ := hrel
    by_cases q3 : i < L.length
    · have q3d : ((i : Int) < (L.length : Int)) = True := eq_true (by omega)
      obtain ⟨ge4, ae4, ne4, ce4, Ae4, Ne4, De4, Ee40, Ee41, Ee42, he4, le4⟩ := rowR_at (HL.out.mono RC.kept hs) (show i < L.length by omega)
      go_wp2_with fail
      clear le4 Ee40 Ee41 Ee42
      with_reducible refine (rSign he4).mono ?_
      rintro e w22 ⟨rfl, hb⟩
      replace hs := bStep hs hb
      replace Bldepth := Bldepth.mono hb
      replace hlo := hlo.mono hb
      replace hhi := hhi.mono hb
      replace he4 := he4.mono hb
      clear hb
      obtain ⟨sg5, Hsg5⟩ : ∃ s : Int, s = sgQ (nthQ L i) := ⟨_, rfl⟩
      rw [← Hsg5]
      replace Hsg5 := Lib.hid Hsg5
      have q6 : ¬ (nthQ L i ≤ 0) := Rat.not_le.2 (nthQ_pos HAP.out i (by omega))
      have q6_ : ¬ (sg5 ≤ 0) := by have h := s1_le (nthQ L i); rw [← Hsg5.out] at h; exact fun h1 => q6 (h.1 h1)
      have q6H := Lib.hid q6
      clear q6
      have q6d : decide (sg5 ≤ 0) = false := decide_eq_false q6_
      go_wp2
      go_roundw
      case rel => exact ⟨i + 1, by omega, by go_num, hs, Bldepth, hlo, hhi⟩
      all_goals first | (simp [intOf]; done) | (simp [intOf]; omega)
    · have q3d : ((i : Int) < (L.length : Int)) = False := eq_false (by omega)
      go_wp2_with fail
      with_reducible refine (r7_zero _).mono ?_
      rintro e w22 ⟨_, rfl, h4, hb⟩
      obtain ⟨sh4, ah4, nh4, ch4, Ah4, Nh4, Ch4, rfl⟩ := h4.shape
      replace hs := bStep hs hb
      replace Bldepth := Bldepth.mono hb
      replace hlo := hlo.mono hb
      replace hhi := hhi.mono hb
      clear hb
      go_wp2
      refine Code.abs ?_
      intro w23 hW
      have hG : Gr [] w22 w23 := by rw [hW]; exact (Gr.refl _ _).alloc
      have hbw : Below w.heap.size w22 w23 := hG.below0 hs.size
      have hk : KeepD w22 w23 := hG.keep True.intro
      have sz_w23 : w.heap.size ≤ w22.heap.size := hs.size
      have ndepth_w23 : w.heap.size < w22.heap.size := Bldepth.lt
      have Bltop : Bx w23 (w22.heap.size) 45 #[.bool sh4, .slice ah4 nh4 ch4, .slice Ah4 Nh4 Ch4] := by rw [hW]; exact (Bx.new0 _ _ _)
      replace hs := hs.trans hbw
      replace Bldepth := hG.bx Bldepth notMem0
      replace hlo := hlo.keep hk
      replace hhi := hhi.keep hk
      replace h4 := h4.keep hk
      clear hW hG hk hbw
      have hz_w23 : w22.heap.size < w23.heap.size := Bltop.lt
      go_loopw [8, 9, 11] (fun s8 s9 s11 wq => ∃ k : Nat, k ≤ L.length ∧ s11 = .int .i64 k ∧ s8 = .int .i64 (plF L lo hi k) ∧ s9 = .int .i64 (plL L lo hi k) ∧ Below w.heap.size w wq ∧ Bx wq (w.heap.size) 88 #[.bool shlo, .slice ahlo nhlo chlo, .slice Ahlo Nhlo Chlo, .bool shhi, .slice ahhi nhhi chhi, .slice Ahhi Nhhi Chhi] ∧ RV wq (.agg #[.bool shlo, .slice ahlo nhlo chlo, .slice Ahlo Nhlo Chlo]) (lo) ∧ RV wq (.agg #[.bool shhi, .slice ahhi nhhi chhi, .slice Ahhi Nhhi Chhi]) (hi) ∧ BoxR wq (w22.heap.size) (topQ L k)) (fun s8 s9 s11 _ => L.length - (intOf s11).toNat)
      case atStart => exact ⟨0, Nat.zero_le _, rfl, rfl, rfl, hs, Bldepth, hlo, hhi, ⟨_, _, _, _, _, _, _, Bltop, h4⟩⟩
      case round =>
        clear Bldepth Bltop hlo hhi h4 hs
        obtain ⟨k, k_le, rfl, rfl, rfl, hs, Bldepth, hlo, hhi, ⟨sh5, ah5, nh5, ch5, Ah5, Nh5, Ch5, Bltop, h5⟩⟩ := hrel
        obtain ⟨fb1, fb2⟩ := plF_bd L lo hi k
        obtain ⟨lb1, lb2⟩ := plL_bd L lo hi k
        obtain ⟨fv, HFV⟩ : ∃ x, x = plF L lo hi k := ⟨_, rfl⟩
        obtain ⟨lv, HLV⟩ : ∃ x, x = plL L lo hi k := ⟨_, rfl⟩
        rw [← HFV, ← HLV]
        rw [← HFV] at fb1 fb2
        rw [← HLV] at lb1 lb2
        replace HFV := Lib.hid HFV.symm
        replace HLV := Lib.hid HLV.symm
        by_cases q6 : k < L.length
        · have q6d : ((k : Int) < (L.length : Int)) = True := eq_true (by omega)
          go_upto_region 13 with fail
          obtain ⟨ge7, ae7, ne7, ce7, Ae7, Ne7, De7, Ee70, Ee71, Ee72, he7, le7⟩ := rowR_at (HL.out.mono RC.kept hs) (show k < L.length by omega)
          go_cut [12] (fun kv wz => ∃ gbottom sh8 ah8 nh8 ch8 Ah8 Nh8 Ch8, kv = .pointer (some ⟨gbottom, 0, none⟩) ∧ w.heap.size ≤ gbottom ∧ gbottom ≠ w.heap.size ∧ gbottom ≠ w22.heap.size ∧ Bx wz gbottom 45 #[.bool sh8, .slice ah8 nh8 ch8, .slice Ah8 Nh8 Ch8] ∧ Below w.heap.size w wz ∧ Bx wz (w.heap.size) 88 #[.bool shlo, .slice ahlo nhlo chlo, .slice Ahlo Nhlo Chlo, .bool shhi, .slice ahhi nhhi chhi, .slice Ahhi Nhhi Chhi] ∧ Bx wz (w22.heap.size) 45 #[.bool sh5, .slice ah5 nh5 ch5, .slice Ah5 Nh5 Ch5] ∧ RV wz (.agg #[.bool shlo, .slice ahlo nhlo chlo, .slice Ahlo Nhlo Chlo]) (lo) ∧ RV wz (.agg #[.bool shhi, .slice ahhi nhhi chhi, .slice Ahhi Nhhi Chhi]) (hi) ∧ RV wz (.agg #[.bool sh5, .slice ah5 nh5 ch5, .slice Ah5 Nh5 Ch5]) (topQ L k) ∧ RV wz (.agg #[.bool ge7, .slice ae7 ne7 ce7, .slice Ae7 Ne7 De7]) (nthQ L k) ∧ RV wz (.agg #[.bool sh8, .slice ah8 nh8 ch8, .slice Ah8 Nh8 Ch8]) (topQ L k + nthQ L k))
          case first =>
            refine U_region (S := fun w' => w'.cell? ⟨w22.heap.size, 0, none⟩ = some (.bool sh5) ∧ w'.cell? ⟨w22.heap.size, 1, none⟩ = some (.slice ah5 nh5 ch5) ∧ w'.cell? ⟨w22.heap.size, 2, none⟩ = some (.slice Ah5 Nh5 Ch5) ∧ w'.cell? ⟨rb, ro + k * 3, none⟩ = some (.bool ge7) ∧ w'.cell? ⟨rb, ro + k * 3 + 1, none⟩ = some (.slice ae7 ne7 ce7) ∧ w'.cell? ⟨rb, ro + k * 3 + 2, none⟩ = some (.slice Ae7 Ne7 De7)) (by kernel_rfl) 7 ?_
            refine AnyU.abs ?_
            intro w44 hW
            have hb : Below wr.heap.size wr w44 := by rw [hW]; exact bDrew _
            replace hs := bStep hs hb
            replace Bldepth := Bldepth.mono hb
            replace Bltop := Bltop.mono hb
            replace hlo := hlo.mono hb
            replace hhi := hhi.mono hb
            replace h5 := h5.mono hb
            replace he7 := he7.mono hb
            replace Ee70 := cellK Ee70 hb
            replace Ee71 := cellK Ee71 hb
            replace Ee72 := cellK Ee72 hb
            clear hb hW
            have ctop_0 : w44.cell? ⟨w22.heap.size, 0, none⟩ = some (.bool sh5) := Bltop.at 0 rfl
            have ctop_1 : w44.cell? ⟨w22.heap.size, 1, none⟩ = some (.slice ah5 nh5 ch5) := Bltop.at 1 rfl
            have ctop_2 : w44.cell? ⟨w22.heap.size, 2, none⟩ = some (.slice Ah5 Nh5 Ch5) := Bltop.at 2 rfl
            have hH := (show w44.cell? ⟨w22.heap.size, 0, none⟩ = some (.bool sh5) ∧ w44.cell? ⟨w22.heap.size, 1, none⟩ = some (.slice ah5 nh5 ch5) ∧ w44.cell? ⟨w22.heap.size, 2, none⟩ = some (.slice Ah5 Nh5 Ch5) ∧ w44.cell? ⟨rb, ro + k * 3, none⟩ = some (.bool ge7) ∧ w44.cell? ⟨rb, ro + k * 3 + 1, none⟩ = some (.slice ae7 ne7 ce7) ∧ w44.cell? ⟨rb, ro + k * 3 + 2, none⟩ = some (.slice Ae7 Ne7 De7) from ⟨ctop_0, ctop_1, ctop_2, Ee70, Ee71, Ee72⟩)
            refine U_take (i := 0) (v := ?_) rfl (by kernel_rfl) (by kernel_rfl) (by kernel_rfl) (by kernel_rfl) (fun _ _ _ h => h) (Or.inl ⟨by rfl, ?_⟩) hH ?_
            rotate_left
            · intro w hSw
              try dsimp only at hSw
              go_simp
              try with_reducible rfl
            try simp only [Act.put, List.setIfInBounds_toArray, List.set_cons_zero, List.set_cons_succ]
            refine U_take (i := 1) (v := ?_) rfl (by kernel_rfl) (by kernel_rfl) (by kernel_rfl) (by kernel_rfl) (fun _ _ _ h => h) (Or.inl ⟨by rfl, ?_⟩) hH ?_
            rotate_left
            · intro w hSw
              try dsimp only at hSw
              go_simp
              try with_reducible rfl
            try simp only [Act.put, List.setIfInBounds_toArray, List.set_cons_zero, List.set_cons_succ]
            refine U_take (i := 2) (v := ?_) rfl (by kernel_rfl) (by kernel_rfl) (by kernel_rfl) (by kernel_rfl) (fun _ _ _ h => h) (Or.inl ⟨by rfl, ?_⟩) hH ?_
            rotate_left
            · intro w hSw
              try dsimp only at hSw
              go_simp
              try with_reducible rfl
            try simp only [Act.put, List.setIfInBounds_toArray, List.set_cons_zero, List.set_cons_succ]
            refine U_take (i := 3) (v := ?_) rfl (by kernel_rfl) (by kernel_rfl) (by kernel_rfl) (by kernel_rfl) (fun _ _ _ h => h) (Or.inl ⟨by rfl, ?_⟩) hH ?_
            rotate_left
            · intro w hSw
              try dsimp only at hSw
              go_simp
              try with_reducible rfl
            try simp only [Act.put, List.setIfInBounds_toArray, List.set_cons_zero, List.set_cons_succ]
            refine U_take (i := 4) (v := ?_) rfl (by kernel_rfl) (by kernel_rfl) (by kernel_rfl) (by kernel_rfl) (fun _ _ _ h => h) (Or.inl ⟨by rfl, ?_⟩) hH ?_
            rotate_left
            · intro w hSw
              try dsimp only at hSw
              go_simp
              try with_reducible rfl
            try simp only [Act.put, List.setIfInBounds_toArray, List.set_cons_zero, List.set_cons_succ]
            refine U_two (i := 5) (j := 6) (by kernel_rfl) rfl rfl (fun K hK => ?_) (fun K hK => ?_)
            · clear hH
              go_simp
              (with_reducible refine (rAdd h5 he7 (SzQ.fit (HTM.out k (by omega))) (SzQ.fit (HZ.out k (by omega)))).mono ?_)
              rintro e w45 ⟨_, rfl, h8, hb⟩
              obtain ⟨sh8, ah8, nh8, ch8, Ah8, Nh8, Ch8, rfl⟩ := h8.shape
              replace hs := bStep hs hb
              replace Bldepth := Bldepth.mono hb
              replace Bltop := Bltop.mono hb
              replace hlo := hlo.mono hb
              replace hhi := hhi.mono hb
              replace h5 := h5.mono hb
              replace he7 := he7.mono hb
              replace ctop_0 := cellK ctop_0 hb
              replace ctop_1 := cellK ctop_1 hb
              replace ctop_2 := cellK ctop_2 hb
              replace Ee70 := cellK Ee70 hb
              replace Ee71 := cellK Ee71 hb
              replace Ee72 := cellK Ee72 hb
              clear hb
              try go_wp2_with fail
              refine hK.out _ _ ⟨ctop_0, ctop_1, ctop_2, Ee70, Ee71, Ee72⟩ (fun hH => ?_)
              clear hK K
              try simp only [Act.put, List.setIfInBounds_toArray, List.set_cons_zero, List.set_cons_succ]
              clear hH
              refine U_one (i := 6) (by kernel_rfl) rfl (fun K hK => ?_)
              go_simp
              generalize hWn : (w45.alloc (.cells #[.bool false, .slice none 0 0, .slice none 0 0] 45)) = w46
              have hb : Below w45.heap.size w45 w46 := by rw [← hWn]; exact (Below.refl _ _).alloc (Nat.le_refl _) _
              have Blbottom : Bx w46 (w45.heap.size) 45 #[.bool false, .slice none 0 0, .slice none 0 0] := by rw [← hWn]; exact Bx.new _ _ _
              have ndepth_bottom : w.heap.size ≠ w45.heap.size := by have := Bldepth.lt; omega
              have ntop_bottom : w22.heap.size ≠ w45.heap.size := by have := Bltop.lt; omega
              have sz_bottom : w.heap.size ≤ w45.heap.size := hs.size
              replace hs := bStep hs hb
              replace Bldepth := Bldepth.mono hb
              replace Bltop := Bltop.mono hb
              replace hlo := hlo.mono hb
              replace hhi := hhi.mono hb
              replace h5 := h5.mono hb
              replace he7 := he7.mono hb
              replace h8 := h8.mono hb
              replace ctop_0 := cellK ctop_0 hb
              replace ctop_1 := cellK ctop_1 hb
              replace ctop_2 := cellK ctop_2 hb
              replace Ee70 := cellK Ee70 hb
              replace Ee71 := cellK Ee71 hb
              replace Ee72 := cellK Ee72 hb
              clear hb hWn
              refine hK.out _ _ ⟨ctop_0, ctop_1, ctop_2, Ee70, Ee71, Ee72⟩ (fun hH => ?_)
              clear hK K
              try simp only [Act.put, List.setIfInBounds_toArray, List.set_cons_zero, List.set_cons_succ]
              clear hH
              have cbottom_0 : w46.cell? ⟨w45.heap.size, 0, none⟩ = some (.bool false) := Blbottom.at 0 rfl
              have cbottom_1 : w46.cell? ⟨w45.heap.size, 1, none⟩ = some (.slice none 0 0) := Blbottom.at 1 rfl
              have cbottom_2 : w46.cell? ⟨w45.heap.size, 2, none⟩ = some (.slice none 0 0) := Blbottom.at 2 rfl
              have fbottom := Blbottom.free
              have Lbottom : w45.heap.size < w46.heap.size := Blbottom.lt
              refine U_last (by kernel_rfl) rfl (by kernel_rfl) (fun K hK => ?_)
              go_simp
              refine hK.out _ _ ?_
              clear hK K
              intro w47 hW
              have hG : Gr [w45.heap.size] w46 w47 := by rw [hW]; exact (Gr.refl _ _).set.set.set
              have hsz := hs.size
              have lbottom := Blbottom.lt
              have hbw : Below w.heap.size w46 w47 := hG.below1 hs.size (by first | omega | assumption)
              have hk : KeepD w46 w47 := hG.keep ⟨⟨_, Blbottom.ty, by decide⟩, True.intro⟩
              have Bl1bottom : Bx w47 (w45.heap.size) 45 #[.bool sh8, .slice ah8 nh8 ch8, .slice Ah8 Nh8 Ch8] := by rw [hW]; exact Blbottom.set3
              replace hs := hs.trans hbw
              replace Bldepth := hG.bx Bldepth (notMem1 (by omega))
              replace Bltop := hG.bx Bltop (notMem1 (by omega))
              replace Blbottom := Bl1bottom
              clear Bl1bottom
              replace hlo := hlo.keep hk
              replace hhi := hhi.keep hk
              replace h5 := h5.keep hk
              replace he7 := he7.keep hk
              replace h8 := h8.keep hk
              clear hW hG hk hbw hsz lbottom
              try simp only [Act.put, List.setIfInBounds_toArray, List.set_cons_zero, List.set_cons_succ]
              clear ctop_0 ctop_1 ctop_2 Ee70 Ee71 Ee72
              go_wp2_with fail
              go_meet
              exact ⟨w45.heap.size, _, _, _, _, _, _, _, rfl, (by first | exact sz_bottom | omega), (by omega), (by omega), Blbottom, hs, Bldepth, Bltop, hlo, hhi, h5, he7, h8⟩
            · clear hH
              go_simp
              generalize hWn : (w44.alloc (.cells #[.bool false, .slice none 0 0, .slice none 0 0] 45)) = w45
              have hb : Below w44.heap.size w44 w45 := by rw [← hWn]; exact (Below.refl _ _).alloc (Nat.le_refl _) _
              have Blbottom : Bx w45 (w44.heap.size) 45 #[.bool false, .slice none 0 0, .slice none 0 0] := by rw [← hWn]; exact Bx.new _ _ _
              have ndepth_bottom : w.heap.size ≠ w44.heap.size := by have := Bldepth.lt; omega
              have ntop_bottom : w22.heap.size ≠ w44.heap.size := by have := Bltop.lt; omega
              have sz_bottom : w.heap.size ≤ w44.heap.size := hs.size
              replace hs := bStep hs hb
              replace Bldepth := Bldepth.mono hb
              replace Bltop := Bltop.mono hb
              replace hlo := hlo.mono hb
              replace hhi := hhi.mono hb
              replace h5 := h5.mono hb
              replace he7 := he7.mono hb
              replace ctop_0 := cellK ctop_0 hb
              replace ctop_1 := cellK ctop_1 hb
              replace ctop_2 := cellK ctop_2 hb
              replace Ee70 := cellK Ee70 hb
              replace Ee71 := cellK Ee71 hb
              replace Ee72 := cellK Ee72 hb
              clear hb hWn
              refine hK.out _ _ ⟨ctop_0, ctop_1, ctop_2, Ee70, Ee71, Ee72⟩ (fun hH => ?_)
              clear hK K
              try simp only [Act.put, List.setIfInBounds_toArray, List.set_cons_zero, List.set_cons_succ]
              clear hH
              refine U_one (i := 5) (by kernel_rfl) rfl (fun K hK => ?_)
              go_simp
              (with_reducible refine (rAdd h5 he7 (SzQ.fit (HTM.out k (by omega))) (SzQ.fit (HZ.out k (by omega)))).mono ?_)
              rintro e w46 ⟨_, rfl, h8, hb⟩
              obtain ⟨sh8, ah8, nh8, ch8, Ah8, Nh8, Ch8, rfl⟩ := h8.shape
              replace hs := bStep hs hb
              replace Bldepth := Bldepth.mono hb
              replace Bltop := Bltop.mono hb
              replace Blbottom := Blbottom.mono hb
              replace hlo := hlo.mono hb
              replace hhi := hhi.mono hb
              replace h5 := h5.mono hb
              replace he7 := he7.mono hb
              replace ctop_0 := cellK ctop_0 hb
              replace ctop_1 := cellK ctop_1 hb
              replace ctop_2 := cellK ctop_2 hb
              replace Ee70 := cellK Ee70 hb
              replace Ee71 := cellK Ee71 hb
              replace Ee72 := cellK Ee72 hb
              clear hb
              try go_wp2_with fail
              refine hK.out _ _ ⟨ctop_0, ctop_1, ctop_2, Ee70, Ee71, Ee72⟩ (fun hH => ?_)
              clear hK K
              try simp only [Act.put, List.setIfInBounds_toArray, List.set_cons_zero, List.set_cons_succ]
              clear hH
              have cbottom_0 : w46.cell? ⟨w44.heap.size, 0, none⟩ = some (.bool false) := Blbottom.at 0 rfl
              have cbottom_1 : w46.cell? ⟨w44.heap.size, 1, none⟩ = some (.slice none 0 0) := Blbottom.at 1 rfl
              have cbottom_2 : w46.cell? ⟨w44.heap.size, 2, none⟩ = some (.slice none 0 0) := Blbottom.at 2 rfl
              have fbottom := Blbottom.free
              have Lbottom : w44.heap.size < w46.heap.size := Blbottom.lt
              refine U_last (by kernel_rfl) rfl (by kernel_rfl) (fun K hK => ?_)
              go_simp
              refine hK.out _ _ ?_
              clear hK K
              intro w47 hW
              have hG : Gr [w44.heap.size] w46 w47 := by rw [hW]; exact (Gr.refl _ _).set.set.set
              have hsz := hs.size
              have lbottom := Blbottom.lt
              have hbw : Below w.heap.size w46 w47 := hG.below1 hs.size (by first | omega | assumption)
              have hk : KeepD w46 w47 := hG.keep ⟨⟨_, Blbottom.ty, by decide⟩, True.intro⟩
              have Bl1bottom : Bx w47 (w44.heap.size) 45 #[.bool sh8, .slice ah8 nh8 ch8, .slice Ah8 Nh8 Ch8] := by rw [hW]; exact Blbottom.set3
              replace hs := hs.trans hbw
              replace Bldepth := hG.bx Bldepth (notMem1 (by omega))
              replace Bltop := hG.bx Bltop (notMem1 (by omega))
              replace Blbottom := Bl1bottom
              clear Bl1bottom
              replace hlo := hlo.keep hk
              replace hhi := hhi.keep hk
              replace h5 := h5.keep hk
              replace he7 := he7.keep hk
              replace h8 := h8.keep hk
              clear hW hG hk hbw hsz lbottom
              try simp only [Act.put, List.setIfInBounds_toArray, List.set_cons_zero, List.set_cons_succ]
              clear ctop_0 ctop_1 ctop_2 Ee70 Ee71 Ee72
              go_wp2_with fail
              go_meet
              exact ⟨w44.heap.size, _, _, _, _, _, _, _, rfl, (by first | exact sz_bottom | omega), (by omega), (by omega), Blbottom, hs, Bldepth, Bltop, hlo, hhi, h5, he7, h8⟩
          case rest =>
            clear hs Ee70 Ee71 Ee72 Bldepth Bltop hlo hhi h5 he7
            obtain ⟨gbottom, sh8, ah8, nh8, ch8, Ah8, Nh8, Ch8, rfl, hg_bottom, ng_bottom_depth, ng_bottom_top, Blbottom, hs, Bldepth, Bltop, hlo, hhi, h5, he7, h8⟩ := hcut
            have cdepth_0 : wc.cell? ⟨w.heap.size, 0, none⟩ = some (.bool shlo) := Bldepth.at 0 rfl
            have cdepth_1 : wc.cell? ⟨w.heap.size, 1, none⟩ = some (.slice ahlo nhlo chlo) := Bldepth.at 1 rfl
            have cdepth_2 : wc.cell? ⟨w.heap.size, 2, none⟩ = some (.slice Ahlo Nhlo Chlo) := Bldepth.at 2 rfl
            have cdepth_3 : wc.cell? ⟨w.heap.size, 3, none⟩ = some (.bool shhi) := Bldepth.at 3 rfl
            have cdepth_4 : wc.cell? ⟨w.heap.size, 4, none⟩ = some (.slice ahhi nhhi chhi) := Bldepth.at 4 rfl
            have cdepth_5 : wc.cell? ⟨w.heap.size, 5, none⟩ = some (.slice Ahhi Nhhi Chhi) := Bldepth.at 5 rfl
            have Ldepth : w.heap.size < wc.heap.size := Bldepth.lt
            have cbottom_0 : wc.cell? ⟨gbottom, 0, none⟩ = some (.bool sh8) := Blbottom.at 0 rfl
            have cbottom_1 : wc.cell? ⟨gbottom, 1, none⟩ = some (.slice ah8 nh8 ch8) := Blbottom.at 1 rfl
            have cbottom_2 : wc.cell? ⟨gbottom, 2, none⟩ = some (.slice Ah8 Nh8 Ch8) := Blbottom.at 2 rfl
            have Lbottom : gbottom < wc.heap.size := Blbottom.lt
            go_wp2_with fail
            clear cdepth_0 cdepth_1 cdepth_2 cdepth_3 cdepth_4 cdepth_5 cbottom_0 cbottom_1 cbottom_2 Ldepth Lbottom
            with_reducible refine (rCmp hlo h8 (SzQ.fit slo) (SzQ.fit (SzQ.add (HTM.out k (by omega)) (HZ.out k (by omega))))).mono ?_
            rintro e w44 ⟨rfl, hb⟩
            replace hs := bStep hs hb
            replace Bldepth := Bldepth.mono hb
            replace Bltop := Bltop.mono hb
            replace Blbottom := Blbottom.mono hb
            replace hlo := hlo.mono hb
            replace hhi := hhi.mono hb
            replace h5 := h5.mono hb
            replace he7 := he7.mono hb
            replace h8 := h8.mono hb
            clear hb
            obtain ⟨sg9, Hsg9⟩ : ∃ s : Int, s = sgQ (lo - (topQ L k + nthQ L k)) := ⟨_, rfl⟩
            rw [← Hsg9]
            replace Hsg9 := Lib.hid Hsg9
            by_cases q10 : lo ≤ topQ L k + nthQ L k
            · have q10_ : sg9 ≤ 0 := by have h := sq_le lo (topQ L k + nthQ L k); rw [← Hsg9.out] at h; exact h.2 q10
              have q10H := Lib.hid q10
              clear q10
              have q10d : decide (sg9 ≤ 0) = true := decide_eq_true q10_
              have ctop_0 : w44.cell? ⟨w22.heap.size, 0, none⟩ = some (.bool sh5) := Bltop.at 0 rfl
              have ctop_1 : w44.cell? ⟨w22.heap.size, 1, none⟩ = some (.slice ah5 nh5 ch5) := Bltop.at 1 rfl
              have ctop_2 : w44.cell? ⟨w22.heap.size, 2, none⟩ = some (.slice Ah5 Nh5 Ch5) := Bltop.at 2 rfl
              have Ltop : w22.heap.size < w44.heap.size := Bltop.lt
              have cdepth_0 : w44.cell? ⟨w.heap.size, 0, none⟩ = some (.bool shlo) := Bldepth.at 0 rfl
              have cdepth_1 : w44.cell? ⟨w.heap.size, 1, none⟩ = some (.slice ahlo nhlo chlo) := Bldepth.at 1 rfl
              have cdepth_2 : w44.cell? ⟨w.heap.size, 2, none⟩ = some (.slice Ahlo Nhlo Chlo) := Bldepth.at 2 rfl
              have cdepth_3 : w44.cell? ⟨w.heap.size, 3, none⟩ = some (.bool shhi) := Bldepth.at 3 rfl
              have cdepth_4 : w44.cell? ⟨w.heap.size, 4, none⟩ = some (.slice ahhi nhhi chhi) := Bldepth.at 4 rfl
              have cdepth_5 : w44.cell? ⟨w.heap.size, 5, none⟩ = some (.slice Ahhi Nhhi Chhi) := Bldepth.at 5 rfl
              have Ldepth : w.heap.size < w44.heap.size := Bldepth.lt
              go_wp2_with fail
              clear ctop_0 ctop_1 ctop_2 cdepth_0 cdepth_1 cdepth_2 cdepth_3 cdepth_4 cdepth_5 Ltop Ldepth
              with_reducible refine (rCmp h5 hhi (SzQ.fit (HTM.out k (by omega))) (SzQ.fit shi)).mono ?_
              rintro e w45 ⟨rfl, hb⟩
              replace hs := bStep hs hb
              replace Bldepth := Bldepth.mono hb
              replace Bltop := Bltop.mono hb
              replace Blbottom := Blbottom.mono hb
              replace hlo := hlo.mono hb
              replace hhi := hhi.mono hb
              replace h5 := h5.mono hb
              replace he7 := he7.mono hb
              replace h8 := h8.mono hb
              clear hb
              obtain ⟨sg11, Hsg11⟩ : ∃ s : Int, s = sgQ ((topQ L k) - hi) := ⟨_, rfl⟩
              rw [← Hsg11]
              replace Hsg11 := Lib.hid Hsg11
              by_cases q12 : topQ L k ≤ hi
              · have q12_ : sg11 ≤ 0 := by have h := sq_le (topQ L k) hi; rw [← Hsg11.out] at h; exact h.2 q12
                have q12H := Lib.hid q12
                clear q12
                have q12d : decide (sg11 ≤ 0) = true := decide_eq_true q12_
                by_cases q13 : fv < 0
                · have q13d : (fv < 0) = True := eq_true (by omega)
                  have cbottom_0 : w45.cell? ⟨gbottom, 0, none⟩ = some (.bool sh8) := Blbottom.at 0 rfl
                  have cbottom_1 : w45.cell? ⟨gbottom, 1, none⟩ = some (.slice ah8 nh8 ch8) := Blbottom.at 1 rfl
                  have cbottom_2 : w45.cell? ⟨gbottom, 2, none⟩ = some (.slice Ah8 Nh8 Ch8) := Blbottom.at 2 rfl
                  have Lbottom : gbottom < w45.heap.size := Blbottom.lt
                  have ctop_0 : w45.cell? ⟨w22.heap.size, 0, none⟩ = some (.bool sh5) := Bltop.at 0 rfl
                  have ctop_1 : w45.cell? ⟨w22.heap.size, 1, none⟩ = some (.slice ah5 nh5 ch5) := Bltop.at 1 rfl
                  have ctop_2 : w45.cell? ⟨w22.heap.size, 2, none⟩ = some (.slice Ah5 Nh5 Ch5) := Bltop.at 2 rfl
                  have ftop := Bltop.free
                  have Ltop : w22.heap.size < w45.heap.size := Bltop.lt
                  go_upto_region 12 with fail
                  clear cbottom_0 cbottom_1 cbottom_2 ctop_0 ctop_1 ctop_2 ftop Lbottom Ltop
                  refine Code.abs ?_
                  intro w46 hW
                  have hG : Gr [w22.heap.size] w45 w46 := by rw [hW]; exact (Gr.refl _ _).set.set.set
                  have hsz := hs.size
                  have ltop := Bltop.lt
                  have hbw : Below w.heap.size w45 w46 := hG.below1 hs.size (by first | omega | assumption)
                  have hk : KeepD w45 w46 := hG.keep ⟨⟨_, Bltop.ty, by decide⟩, True.intro⟩
                  have Bl1top : Bx w46 (w22.heap.size) 45 #[.bool sh8, .slice ah8 nh8 ch8, .slice Ah8 Nh8 Ch8] := by rw [hW]; exact Bltop.set3
                  replace hs := hs.trans hbw
                  replace Bldepth := hG.bx Bldepth (notMem1 (by omega))
                  replace Blbottom := hG.bx Blbottom (notMem1 (by omega))
                  replace Bltop := Bl1top
                  clear Bl1top
                  replace hlo := hlo.keep hk
                  replace hhi := hhi.keep hk
                  replace h5 := h5.keep hk
                  replace he7 := he7.keep hk
                  replace h8 := h8.keep hk
                  clear hW hG hk hbw hsz ltop
                  go_wp2
                  go_roundw
                  case rel => exact ⟨k + 1, by omega, by go_num, by rw [plF_yes (hitB_tt (Rat.not_lt.2 q10H.out) (Rat.not_lt.2 q12H.out)) (by rw [HFV.out]; omega)], by rw [plL_yes (hitB_tt (Rat.not_lt.2 q10H.out) (Rat.not_lt.2 q12H.out))], hs, Bldepth, hlo, hhi, ⟨_, _, _, _, _, _, _, Bltop, h8.of_eq rfl⟩⟩
                  all_goals first | (simp [intOf]; done) | (simp [intOf]; omega)
                · have q13d : (fv < 0) = False := eq_false (by omega)
                  have cbottom_0 : w45.cell? ⟨gbottom, 0, none⟩ = some (.bool sh8) := Blbottom.at 0 rfl
                  have cbottom_1 : w45.cell? ⟨gbottom, 1, none⟩ = some (.slice ah8 nh8 ch8) := Blbottom.at 1 rfl
                  have cbottom_2 : w45.cell? ⟨gbottom, 2, none⟩ = some (.slice Ah8 Nh8 Ch8) := Blbottom.at 2 rfl
                  have Lbottom : gbottom < w45.heap.size := Blbottom.lt
                  have ctop_0 : w45.cell? ⟨w22.heap.size, 0, none⟩ = some (.bool sh5) := Bltop.at 0 rfl
                  have ctop_1 : w45.cell? ⟨w22.heap.size, 1, none⟩ = some (.slice ah5 nh5 ch5) := Bltop.at 1 rfl
                  have ctop_2 : w45.cell? ⟨w22.heap.size, 2, none⟩ = some (.slice Ah5 Nh5 Ch5) := Bltop.at 2 rfl
                  have ftop := Bltop.free
                  have Ltop : w22.heap.size < w45.heap.size := Bltop.lt
                  go_upto_region 12 with fail
                  clear cbottom_0 cbottom_1 cbottom_2 ctop_0 ctop_1 ctop_2 ftop Lbottom Ltop
                  refine Code.abs ?_
                  intro w46 hW
                  have hG : Gr [w22.heap.size] w45 w46 := by rw [hW]; exact (Gr.refl _ _).set.set.set
                  have hsz := hs.size
                  have ltop := Bltop.lt
                  have hbw : Below w.heap.size w45 w46 := hG.below1 hs.size (by first | omega | assumption)
                  have hk : KeepD w45 w46 := hG.keep ⟨⟨_, Bltop.ty, by decide⟩, True.intro⟩
                  have Bl1top : Bx w46 (w22.heap.size) 45 #[.bool sh8, .slice ah8 nh8 ch8, .slice Ah8 Nh8 Ch8] := by rw [hW]; exact Bltop.set3
                  replace hs := hs.trans hbw
                  replace Bldepth := hG.bx Bldepth (notMem1 (by omega))
                  replace Blbottom := hG.bx Blbottom (notMem1 (by omega))
                  replace Bltop := Bl1top
                  clear Bl1top
                  replace hlo := hlo.keep hk
                  replace hhi := hhi.keep hk
                  replace h5 := h5.keep hk
                  replace he7 := he7.keep hk
                  replace h8 := h8.keep hk
                  clear hW hG hk hbw hsz ltop
                  go_wp2
                  go_roundw
                  case rel => exact ⟨k + 1, by omega, by go_num, by rw [plF_more (hitB_tt (Rat.not_lt.2 q10H.out) (Rat.not_lt.2 q12H.out)) (by rw [HFV.out]; omega), HFV.out], by rw [plL_yes (hitB_tt (Rat.not_lt.2 q10H.out) (Rat.not_lt.2 q12H.out))], hs, Bldepth, hlo, hhi, ⟨_, _, _, _, _, _, _, Bltop, h8.of_eq rfl⟩⟩
                  all_goals first | (simp [intOf]; done) | (simp [intOf]; omega)
              · have q12_ : ¬ (sg11 ≤ 0) := by have h := sq_le (topQ L k) hi; rw [← Hsg11.out] at h; exact fun h1 => q12 (h.1 h1)
                have q12H := Lib.hid q12
                clear q12
                have q12d : decide (sg11 ≤ 0) = false := decide_eq_false q12_
                have cbottom_0 : w45.cell? ⟨gbottom, 0, none⟩ = some (.bool sh8) := Blbottom.at 0 rfl
                have cbottom_1 : w45.cell? ⟨gbottom, 1, none⟩ = some (.slice ah8 nh8 ch8) := Blbottom.at 1 rfl
                have cbottom_2 : w45.cell? ⟨gbottom, 2, none⟩ = some (.slice Ah8 Nh8 Ch8) := Blbottom.at 2 rfl
                have Lbottom : gbottom < w45.heap.size := Blbottom.lt
                have ctop_0 : w45.cell? ⟨w22.heap.size, 0, none⟩ = some (.bool sh5) := Bltop.at 0 rfl
                have ctop_1 : w45.cell? ⟨w22.heap.size, 1, none⟩ = some (.slice ah5 nh5 ch5) := Bltop.at 1 rfl
                have ctop_2 : w45.cell? ⟨w22.heap.size, 2, none⟩ = some (.slice Ah5 Nh5 Ch5) := Bltop.at 2 rfl
                have ftop := Bltop.free
                have Ltop : w22.heap.size < w45.heap.size := Bltop.lt
                go_upto_region 12 with fail
                clear cbottom_0 cbottom_1 cbottom_2 ctop_0 ctop_1 ctop_2 ftop Lbottom Ltop
                refine Code.abs ?_
                intro w46 hW
                have hG : Gr [w22.heap.size] w45 w46 := by rw [hW]; exact (Gr.refl _ _).set.set.set
                have hsz := hs.size
                have ltop := Bltop.lt
                have hbw : Below w.heap.size w45 w46 := hG.below1 hs.size (by first | omega | assumption)
                have hk : KeepD w45 w46 := hG.keep ⟨⟨_, Bltop.ty, by decide⟩, True.intro⟩
                have Bl1top : Bx w46 (w22.heap.size) 45 #[.bool sh8, .slice ah8 nh8 ch8, .slice Ah8 Nh8 Ch8] := by rw [hW]; exact Bltop.set3
                replace hs := hs.trans hbw
                replace Bldepth := hG.bx Bldepth (notMem1 (by omega))
                replace Blbottom := hG.bx Blbottom (notMem1 (by omega))
                replace Bltop := Bl1top
                clear Bl1top
                replace hlo := hlo.keep hk
                replace hhi := hhi.keep hk
                replace h5 := h5.keep hk
                replace he7 := he7.keep hk
                replace h8 := h8.keep hk
                clear hW hG hk hbw hsz ltop
                go_wp2
                go_roundw
                case rel => exact ⟨k + 1, by omega, by go_num, by rw [plF_no (hitB_f2 (Rat.not_lt.2 q10H.out) (Rat.not_le.1 q12H.out)), HFV.out], by rw [plL_no (hitB_f2 (Rat.not_lt.2 q10H.out) (Rat.not_le.1 q12H.out)), HLV.out], hs, Bldepth, hlo, hhi, ⟨_, _, _, _, _, _, _, Bltop, h8.of_eq rfl⟩⟩
                all_goals first | (simp [intOf]; done) | (simp [intOf]; omega)
            · have q10_ : ¬ (sg9 ≤ 0) := by have h := sq_le lo (topQ L k + nthQ L k); rw [← Hsg9.out] at h; exact fun h1 => q10 (h.1 h1)
              have q10H := Lib.hid q10
              clear q10
              have q10d : decide (sg9 ≤ 0) = false := decide_eq_false q10_
              have cbottom_0 : w44.cell? ⟨gbottom, 0, none⟩ = some (.bool sh8) := Blbottom.at 0 rfl
              have cbottom_1 : w44.cell? ⟨gbottom, 1, none⟩ = some (.slice ah8 nh8 ch8) := Blbottom.at 1 rfl
              have cbottom_2 : w44.cell? ⟨gbottom, 2, none⟩ = some (.slice Ah8 Nh8 Ch8) := Blbottom.at 2 rfl
              have Lbottom : gbottom < w44.heap.size := Blbottom.lt
              have ctop_0 : w44.cell? ⟨w22.heap.size, 0, none⟩ = some (.bool sh5) := Bltop.at 0 rfl
              have ctop_1 : w44.cell? ⟨w22.heap.size, 1, none⟩ = some (.slice ah5 nh5 ch5) := Bltop.at 1 rfl
              have ctop_2 : w44.cell? ⟨w22.heap.size, 2, none⟩ = some (.slice Ah5 Nh5 Ch5) := Bltop.at 2 rfl
              have ftop := Bltop.free
              have Ltop : w22.heap.size < w44.heap.size := Bltop.lt
              go_upto_region 12 with fail
              clear cbottom_0 cbottom_1 cbottom_2 ctop_0 ctop_1 ctop_2 ftop Lbottom Ltop
              refine Code.abs ?_
              intro w45 hW
              have hG : Gr [w22.heap.size] w44 w45 := by rw [hW]; exact (Gr.refl _ _).set.set.set
              have hsz := hs.size
              have ltop := Bltop.lt
              have hbw : Below w.heap.size w44 w45 := hG.below1 hs.size (by first | omega | assumption)
              have hk : KeepD w44 w45 := hG.keep ⟨⟨_, Bltop.ty, by decide⟩, True.intro⟩
              have Bl1top : Bx w45 (w22.heap.size) 45 #[.bool sh8, .slice ah8 nh8 ch8, .slice Ah8 Nh8 Ch8] := by rw [hW]; exact Bltop.set3
              replace hs := hs.trans hbw
              replace Bldepth := hG.bx Bldepth (notMem1 (by omega))
              replace Blbottom := hG.bx Blbottom (notMem1 (by omega))
              replace Bltop := Bl1top
              clear Bl1top
              replace hlo := hlo.keep hk
              replace hhi := hhi.keep hk
              replace h5 := h5.keep hk
              replace he7 := he7.keep hk
              replace h8 := h8.keep hk
              clear hW hG hk hbw hsz ltop
              go_wp2
              go_roundw
              case rel => exact ⟨k + 1, by omega, by go_num, by rw [plF_no (hitB_f1 (Rat.not_le.1 q10H.out)), HFV.out], by rw [plL_no (hitB_f1 (Rat.not_le.1 q10H.out)), HLV.out], hs, Bldepth, hlo, hhi, ⟨_, _, _, _, _, _, _, Bltop, h8.of_eq rfl⟩⟩
              all_goals first | (simp [intOf]; done) | (simp [intOf]; omega)
        · have q6d : ((k : Int) < (L.length : Int)) = False := eq_false (by omega)
          by_cases q7 : fv < 0
          · have q7d : (fv < 0) = True := eq_true (by omega)
            obtain rfl : k = L.length := by omega
            go_wp2
            go_ret3
            exact ⟨by rw [plR_no (by rw [HFV.out]; omega)]; rfl, hs⟩
          · have q7d : (fv < 0) = False := eq_false (by omega)
            obtain rfl : k = L.length := by omega
            go_wp2
            go_ret3
            exact ⟨by rw [plR_yes (by rw [HFV.out]; omega), HFV.out, HLV.out]; rfl, hs⟩
theorem allPos_of {L : List Rat} (h : ∀ j, j < L.length → 0 < nthQ L j) : allPos L = true := by
  refine List.all_eq_true.2 fun x hx => ?_
  obtain ⟨j, hj, e⟩ := List.getElem_of_mem hx
  have := h j hj
  have e2 := nthQ_some hj
  rw [List.getElem?_eq_getElem hj, e] at e2
  injection e2 with e2
  rw [← e2] at this
  simpa using this
theorem pos_step {L : List Rat} {i : Nat} (h : ∀ j, j < i → 0 < nthQ L j) (hi : ¬ nthQ L i ≤ 0) : ∀ j, j < i + 1 → 0 < nthQ L j := fun j hj => by
  by_cases e : j = i
  · subst e; exact Rat.not_le.1 hi
  · exact h j (by omega)

set_option maxRecDepth 100000 in
set_option maxHeartbeats 4000000 in
theorem r7_Plies_none (v vr : Value) (L : List Rat) (lo hi : Rat) (w : World) (hl : Rows 3 45 RC w v L) (h0 : L.length = 0) (hr : RV2 w vr lo hi) :
    Calls Tryz.prog 41 #[v, vr] w (RetV w (.tuple #[.int .i64 0, .int .i64 0, .int .i64 4])) := by
  obtain ⟨ao, rc, rfl, hc1, hc2, hc3⟩ := hl.slice
  have hs := Below.refl w.heap.size w
  have HL := Lib.hid hl
  clear hl
  obtain ⟨shlo, ahlo, nhlo, chlo, Ahlo, Nhlo, Chlo, shhi, ahhi, nhhi, chhi, Ahhi, Nhhi, Chhi, rfl, hlo, hhi⟩ := hr.shape
  clear hr
  go_enter Tryz.func41, Tryz.ntmps41
  have q1 : L.length < 1 := by omega
  have q1d : ((L.length : Int) < 1) = True := eq_true (by omega)
  go_wp2
  refine bodyPost.abs ?_
  intro w1 hW
  have hG : Gr [] w w1 := by rw [hW]; exact (Gr.refl _ _).alloc
  have hbw : Below w.heap.size w w1 := hG.below0 hs.size
  have hk : KeepD w w1 := hG.keep True.intro
  have sz_w1 : w.heap.size ≤ w.heap.size := hs.size
  have Bldepth : Bx w1 (w.heap.size) 88 #[.bool shlo, .slice ahlo nhlo chlo, .slice Ahlo Nhlo Chlo, .bool shhi, .slice ahhi nhhi chhi, .slice Ahhi Nhhi Chhi] := by rw [hW]; exact (Bx.new0 _ _ _)
  replace hs := hs.trans hbw
  replace hlo := hlo.keep hk
  replace hhi := hhi.keep hk
  clear hW hG hk hbw
  have hz_w1 : w.heap.size < w1.heap.size := Bldepth.lt
  go_ret3
  exact ⟨rfl, hs⟩

set_option maxRecDepth 100000 in
set_option maxHeartbeats 4000000 in
theorem r7_Plies_pos (v vr : Value) (L : List Rat) (lo hi : Rat) (w : World) (hl : Rows 3 45 RC w v L) (h1 : 1 ≤ L.length) (h12 : L.length ≤ 12) (hap : allPos L = false) (hr : RV2 w vr lo hi) :
    Calls Tryz.prog 41 #[v, vr] w (RetV w (.tuple #[.int .i64 0, .int .i64 0, .int .i64 1])) := by
  obtain ⟨rb, ro, rc, rfl, hc1, hc2, -⟩ := hl.open_ (by omega)
  have HAP := Lib.hid hap
  clear hap
  have hs := Below.refl w.heap.size w
  have HL := Lib.hid hl
  clear hl
  obtain ⟨shlo, ahlo, nhlo, chlo, Ahlo, Nhlo, Chlo, shhi, ahhi, nhhi, chhi, Ahhi, Nhhi, Chhi, rfl, hlo, hhi⟩ := hr.shape
  clear hr
  go_enter Tryz.func41, Tryz.ntmps41
  have q1 : ¬ (L.length < 1) := by omega
  have q1d : ((L.length : Int) < 1) = False := eq_false (by omega)
  have q2 : ¬ (12 < L.length) := by omega
  have q2d : ((12 : Int) < (L.length : Int)) = False := eq_false (by omega)
  go_wp2
  refine Code.abs ?_
  intro w1 hW
  have hG : Gr [] w w1 := by rw [hW]; exact (Gr.refl _ _).alloc
  have hbw : Below w.heap.size w w1 := hG.below0 hs.size
  have hk : KeepD w w1 := hG.keep True.intro
  have sz_w1 : w.heap.size ≤ w.heap.size := hs.size
  have Bldepth : Bx w1 (w.heap.size) 88 #[.bool shlo, .slice ahlo nhlo chlo, .slice Ahlo Nhlo Chlo, .bool shhi, .slice ahhi nhhi chhi, .slice Ahhi Nhhi Chhi] := by rw [hW]; exact (Bx.new0 _ _ _)
  replace hs := hs.trans hbw
  replace hlo := hlo.keep hk
  replace hhi := hhi.keep hk
  clear hW hG hk hbw
  have hz_w1 : w.heap.size < w1.heap.size := Bldepth.lt
  go_loopw [7] (fun s7 wq => ∃ i : Nat, i ≤ L.length ∧ s7 = .int .i64 i ∧ Below w.heap.size w wq ∧ Bx wq (w.heap.size) 88 #[.bool shlo, .slice ahlo nhlo chlo, .slice Ahlo Nhlo Chlo, .bool shhi, .slice ahhi nhhi chhi, .slice Ahhi Nhhi Chhi] ∧ RV wq (.agg #[.bool shlo, .slice ahlo nhlo chlo, .slice Ahlo Nhlo Chlo]) (lo) ∧ RV wq (.agg #[.bool shhi, .slice ahhi nhhi chhi, .slice Ahhi Nhhi Chhi]) (hi) ∧ (∀ j, j < i → 0 < nthQ L j)) (fun s7 _ => L.length - (intOf s7).toNat)
  case atStart => exact ⟨0, Nat.zero_le _, rfl, hs, Bldepth, hlo, hhi, fun j hj => absurd hj (Nat.not_lt_zero j)⟩
  case round =>
    clear Bldepth hlo hhi hs
    obtain ⟨i, k_le, rfl, hs, Bldepth, hlo, hhi, HE⟩ := hrel
    replace HE := Lib.hid HE
    by_cases q3 : i < L.length
    · have q3d : ((i : Int) < (L.length : Int)) = True := eq_true (by omega)
      obtain ⟨ge4, ae4, ne4, ce4, Ae4, Ne4, De4, Ee40, Ee41, Ee42, he4, le4⟩ := rowR_at (HL.out.mono RC.kept hs) (show i < L.length by omega)
      go_wp2_with fail
      clear le4 Ee40 Ee41 Ee42
      with_reducible refine (rSign he4).mono ?_
      rintro e w22 ⟨rfl, hb⟩
      replace hs := bStep hs hb
      replace Bldepth := Bldepth.mono hb
      replace hlo := hlo.mono hb
      replace hhi := hhi.mono hb
      replace he4 := he4.mono hb
      clear hb
      obtain ⟨sg5, Hsg5⟩ : ∃ s : Int, s = sgQ (nthQ L i) := ⟨_, rfl⟩
      rw [← Hsg5]
      replace Hsg5 := Lib.hid Hsg5
      by_cases q6 : nthQ L i ≤ 0
      · have q6_ : sg5 ≤ 0 := by have h := s1_le (nthQ L i); rw [← Hsg5.out] at h; exact h.2 q6
        have q6H := Lib.hid q6
        clear q6
        have q6d : decide (sg5 ≤ 0) = true := decide_eq_true q6_
        go_wp2
        go_ret3
        exact ⟨rfl, hs⟩
      · have q6_ : ¬ (sg5 ≤ 0) := by have h := s1_le (nthQ L i); rw [← Hsg5.out] at h; exact fun h1 => q6 (h.1 h1)
        have q6H := Lib.hid q6
        clear q6
        have q6d : decide (sg5 ≤ 0) = false := decide_eq_false q6_
        go_wp2
        go_roundw
        case rel => exact ⟨i + 1, by omega, by go_num, hs, Bldepth, hlo, hhi, pos_step HE.out q6H.out⟩
        all_goals first | (simp [intOf]; done) | (simp [intOf]; omega)
    · have q3d : ((i : Int) < (L.length : Int)) = False := eq_false (by omega)
      exact absurd (allPos_of (fun j hj => HE.out j (by omega))) (by rw [HAP.out]; simp)

set_option maxRecDepth 100000 in
set_option maxHeartbeats 4000000 in
theorem r7_Plies_many (v vr : Value) (L : List Rat) (lo hi : Rat) (w : World) (hl : Rows 3 45 RC w v L) (h0 : 12 < L.length) (hr : RV2 w vr lo hi) :
    Calls Tryz.prog 41 #[v, vr] w (RetV w (.tuple #[.int .i64 0, .int .i64 0, .int .i64 4])) := by
  obtain ⟨ao, rc, rfl, hc1, hc2, hc3⟩ := hl.slice
  have hs := Below.refl w.heap.size w
  have HL := Lib.hid hl
  clear hl
  obtain ⟨shlo, ahlo, nhlo, chlo, Ahlo, Nhlo, Chlo, shhi, ahhi, nhhi, chhi, Ahhi, Nhhi, Chhi, rfl, hlo, hhi⟩ := hr.shape
  clear hr
  go_enter Tryz.func41, Tryz.ntmps41
  have q1 : ¬ (L.length < 1) := by omega
  have q1d : ((L.length : Int) < 1) = False := eq_false (by omega)
  have q2 : 12 < L.length := by omega
  have q2d : ((12 : Int) < (L.length : Int)) = True := eq_true (by omega)
  go_wp2
  refine bodyPost.abs ?_
  intro w1 hW
  have hG : Gr [] w w1 := by rw [hW]; exact (Gr.refl _ _).alloc
  have hbw : Below w.heap.size w w1 := hG.below0 hs.size
  have hk : KeepD w w1 := hG.keep True.intro
  have sz_w1 : w.heap.size ≤ w.heap.size := hs.size
  have Bldepth : Bx w1 (w.heap.size) 88 #[.bool shlo, .slice ahlo nhlo chlo, .slice Ahlo Nhlo Chlo, .bool shhi, .slice ahhi nhhi chhi, .slice Ahhi Nhhi Chhi] := by rw [hW]; exact (Bx.new0 _ _ _)
  replace hs := hs.trans hbw
  replace hlo := hlo.keep hk
  replace hhi := hhi.keep hk
  clear hW hG hk hbw
  have hz_w1 : w.heap.size < w1.heap.size := Bldepth.lt
  go_ret3
  exact ⟨rfl, hs⟩

end Go.Proofs.YtlfnapfnpkhggaaGreat
