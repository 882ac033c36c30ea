/-
  Reference 08: Rank, Coupons.
-/
import Derived.Test.YtlmemilmhdhgbaaGreatPkAlRO
set_option linter.unusedSimpArgs false
set_option linter.unusedVariables false
set_option maxRecDepth 100000
set_option maxHeartbeats 8000000
namespace Go.Proofs.YtlmemilmhdhgbaaGreat
open Go.RowKit Dg
attribute [local go_sem ↓] Go.wp_at_zero Go.wp_at_succ
theorem r8_Rank_ok {v v' : Value} {u c : Rat} {n : Nat} (w : World) (hu : RV w v u) (su : SzQ 1 u) (u0 : 0 ≤ u) (u1 : u ≤ 1) (hc : RV w v' c) (sc : SzQ 1 c) (c0 : 0 ≤ c) (c1 : c ≤ 1) (h1 : 1 ≤ n) (hn : n ≤ 64) {r e : Int} (hr : (rkF (1 - u) n c n : Int) = r) (he : rkE (rkF (1 - u) n c n) = e) :
    Calls Tryz.prog 30 #[.int .i64 n, v, v'] w (RetV w (.tuple #[.int .i64 r, .int .i64 e])) := by
  obtain ⟨shu, ahu, nhu, chu, Ahu, Nhu, Chu, rfl⟩ := hu.shape
  obtain ⟨shc, ahc, nhc, chc, Ahc, Nhc, Chc, rfl⟩ := hc.shape
  have hs := Below.refl w.heap.size w
  have HS := Lib.hid (show 0 ≤ u ∧ u ≤ 1 from ⟨u0, u1⟩)
  have HC := Lib.hid (show 0 ≤ c ∧ c ≤ 1 from ⟨c0, c1⟩)
  have sl := less_sz u0 u1 su
  have HP := Lib.hid (show 0 ≤ 1 - u ∧ 1 - u ≤ 1 by grind)
  have HBZ := Lib.hid (fun m (hm : m ≤ 64) => binL_mid HP.out.1 HP.out.2 sl hm)
  have HTZ := Lib.hid (fun m k (hm : m ≤ 64) => (tl_sz HP.out.1 HP.out.2 sl m k).mono (show m + 1 ≤ 100 by omega))
  have HR := Lib.hid hr
  have HE := Lib.hid he
  clear u0 u1 c0 c1 hr he
  go_enter Tryz.func30, Tryz.ntmps30
  have q1 : ¬ (n < 1) := (by omega)
  have q1d : ((n : Int) < 1) = False := eq_false (by omega)
  have q2 : ¬ (64 < n) := (by omega)
  have q2d : ((64 : Int) < (n : Int)) = False := eq_false (by omega)
  go_wp2_with fail
  refine Calls.abs ?_
  intro w1 hW
  have hG : Gr [] w w1 := by rw [hW]; exact (Gr.refl _ _).alloc.alloc
  have hbw : Below w.heap.size w w1 := hG.below0 hs.size
  have hk : KeepD w w1 := hG.keep True.intro
  have sz_w1 : w.heap.size ≤ w.heap.size := hs.size
  have B1 : Bx w1 (w.heap.size) 41 #[.bool shu, .slice ahu nhu chu, .slice Ahu Nhu Chu] := by rw [hW]; exact ((Bx.new0 _ _ _).alloc _)
  have B0 : Bx w1 (w.heap.size + 1) 41 #[.bool shc, .slice ahc nhc chc, .slice Ahc Nhc Chc] := by rw [hW]; exact (Bx.new0 _ _ _)
  replace hs := hs.trans hbw
  replace hu := hu.keep hk
  replace hc := hc.keep hk
  clear hW hG hk hbw
  have hz_w1 : w.heap.size + 1 < w1.heap.size := B0.lt
  with_reducible refine (r8_Chance _ _ _ hu (SzQ.mid su) rfl).mono ?_
  rintro e w2 ⟨rfl, hb⟩
  replace hs := bStep hs hb
  replace B1 := B1.mono hb
  replace B0 := B0.mono hb
  replace hu := hu.mono hb
  replace hc := hc.mono hb
  clear hb
  obtain ⟨b3, Hb3⟩ : ∃ b : Bool, b = decide (0 ≤ u ∧ u ≤ 1) := ⟨_, rfl⟩
  rw [← Hb3]
  replace Hb3 := Lib.hid Hb3
  have q4 : 0 ≤ u ∧ u ≤ 1 := HS.out
  obtain rfl : b3 = true := by rw [Hb3.out]; exact decide_eq_true q4
  have q4H := Lib.hid q4
  clear q4
  have B2 : w2.cell? ⟨w.heap.size + 1, 0, none⟩ = some (.bool shc) := B0.at 0 rfl
  have B3 : w2.cell? ⟨w.heap.size + 1, 1, none⟩ = some (.slice ahc nhc chc) := B0.at 1 rfl
  have B4 : w2.cell? ⟨w.heap.size + 1, 2, none⟩ = some (.slice Ahc Nhc Chc) := B0.at 2 rfl
  have Lconfidence : w.heap.size + 1 < w2.heap.size := B0.lt
  go_wp2_with fail
  clear B2 B3 B4 Lconfidence
  with_reducible refine (r8_Chance _ _ _ hc (SzQ.mid sc) rfl).mono ?_
  rintro e w3 ⟨rfl, hb⟩
  replace hs := bStep hs hb
  replace B1 := B1.mono hb
  replace B0 := B0.mono hb
  replace hu := hu.mono hb
  replace hc := hc.mono hb
  clear hb
  obtain ⟨b5, Hb5⟩ : ∃ b : Bool, b = decide (0 ≤ c ∧ c ≤ 1) := ⟨_, rfl⟩
  rw [← Hb5]
  replace Hb5 := Lib.hid Hb5
  have q6 : 0 ≤ c ∧ c ≤ 1 := HC.out
  obtain rfl : b5 = true := by rw [Hb5.out]; exact decide_eq_true q6
  have q6H := Lib.hid q6
  clear q6
  have B5 : w3.cell? ⟨w.heap.size, 0, none⟩ = some (.bool shu) := B1.at 0 rfl
  have B6 : w3.cell? ⟨w.heap.size, 1, none⟩ = some (.slice ahu nhu chu) := B1.at 1 rfl
  have B7 : w3.cell? ⟨w.heap.size, 2, none⟩ = some (.slice Ahu Nhu Chu) := B1.at 2 rfl
  have Lshare : w.heap.size < w3.heap.size := B1.lt
  go_wp2_with fail
  clear B5 B6 B7 Lshare
  with_reducible refine (r8_rest _ _ _ hu (SzQ.mid su)).mono ?_
  rintro e w4 ⟨_, rfl, h7, hb⟩
  obtain ⟨sh7, ah7, nh7, ch7, Ah7, Nh7, Ch7, rfl⟩ := h7.shape
  replace hs := bStep hs hb
  replace B1 := B1.mono hb
  replace B0 := B0.mono hb
  replace hu := hu.mono hb
  replace hc := hc.mono hb
  clear hb
  go_wp2_with fail
  with_reducible refine (r8_chances (n := n) _ h7 sl HP.out.1 HP.out.2 (by omega)).mono ?_
  rintro e w5 ⟨_, rfl, h8, hb⟩
  obtain ⟨bh8, oh8, kh8, rfl, h81, h82, -⟩ := h8.open_ (by rw [binL_len]; omega)
  replace hs := bStep hs hb
  replace B1 := B1.mono hb
  replace B0 := B0.mono hb
  replace hu := hu.mono hb
  replace hc := hc.mono hb
  replace h7 := h7.mono hb
  clear hb
  go_wp2
  go_loopw [9] (fun s9 wq => ∃ k : Nat, k ≤ n ∧ s9 = .int .i64 k ∧ Below w.heap.size w wq ∧ Bx wq (w.heap.size) 41 #[.bool shu, .slice ahu nhu chu, .slice Ahu Nhu Chu] ∧ Bx wq (w.heap.size + 1) 41 #[.bool shc, .slice ahc nhc chc, .slice Ahc Nhc Chc] ∧ RV wq (.agg #[.bool shu, .slice ahu nhu chu, .slice Ahu Nhu Chu]) (u) ∧ RV wq (.agg #[.bool shc, .slice ahc nhc chc, .slice Ahc Nhc Chc]) (c) ∧ RV wq (.agg #[.bool sh7, .slice ah7 nh7 ch7, .slice Ah7 Nh7 Ch7]) (1 - u) ∧ Rows 3 41 RC wq (.slice (some ⟨bh8, oh8, none⟩) (binL (1 - u) n).length kh8) ((binL (1 - u) n)) ∧ (rkF (1 - u) n c n = rkF (1 - u) n c k)) (fun s9 _ => (intOf s9).toNat)
  case atStart => exact ⟨n, Nat.le_refl _, rfl, hs, B1, B0, hu, hc, h7, h8, rfl⟩
  case round =>
    clear B1 B0 hu hc h7 h8 hs
    obtain ⟨k, k_le, rfl, hs, B1, B0, hu, hc, h7, h8, HI⟩ := hrel
    replace HI := Lib.hid HI
    by_cases q9 : 0 < k
    · have q9d : ((0 : Int) < (k : Int)) = True := eq_true (by omega)
      go_upto_region 7 with fail
      obtain ⟨sg11, Hsg11⟩ : ∃ s : Int, s = sgQ ((tlQ (1 - u) n k) - c) := ⟨_, rfl⟩
      replace Hsg11 := Lib.hid Hsg11
      refine U_region (S := fun w' => w'.cell? ⟨w.heap.size + 1, 0, none⟩ = some (.bool shc) ∧ w'.cell? ⟨w.heap.size + 1, 1, none⟩ = some (.slice ahc nhc chc) ∧ w'.cell? ⟨w.heap.size + 1, 2, none⟩ = some (.slice Ahc Nhc Chc)) (by kernel_rfl) 6 ?_
      refine AnyU.abs ?_
      intro w26 hW
      have hb : Below wr.heap.size wr w26 := by rw [hW]; exact bDrew _
      replace hs := bStep hs hb
      replace B1 := B1.mono hb
      replace B0 := B0.mono hb
      replace hu := hu.mono hb
      replace hc := hc.mono hb
      replace h7 := h7.mono hb
      replace h8 := rowsJ RC.kept _ _ _ h8 hb
      clear hb hW
      have B2 : w26.cell? ⟨w.heap.size + 1, 0, none⟩ = some (.bool shc) := B0.at 0 rfl
      have B3 : w26.cell? ⟨w.heap.size + 1, 1, none⟩ = some (.slice ahc nhc chc) := B0.at 1 rfl
      have B4 : w26.cell? ⟨w.heap.size + 1, 2, none⟩ = some (.slice Ahc Nhc Chc) := B0.at 2 rfl
      have hH := (show w26.cell? ⟨w.heap.size + 1, 0, none⟩ = some (.bool shc) ∧ w26.cell? ⟨w.heap.size + 1, 1, none⟩ = some (.slice ahc nhc chc) ∧ w26.cell? ⟨w.heap.size + 1, 2, none⟩ = some (.slice Ahc Nhc Chc) from ⟨B2, B3, B4⟩)
      refine U_takeN (i := 0) (d := 35) (v := ?_) rfl rfl rfl (by kernel_rfl) (by kernel_rfl) (by kernel_rfl) (fun _ _ _ h => h) (Or.inl ⟨by rfl, ?_⟩) hH ?_
      rotate_left
      · intro w hSw
        try dsimp only at hSw
        go_simp
        try with_reducible rfl
      simp only [LY]
      refine U_takeN (i := 1) (d := 36) (v := ?_) rfl rfl rfl (by kernel_rfl) (by kernel_rfl) (by kernel_rfl) (fun _ _ _ h => h) (Or.inl ⟨by rfl, ?_⟩) hH ?_
      rotate_left
      · intro w hSw
        try dsimp only at hSw
        go_simp
        try with_reducible rfl
      simp only [LY]
      refine U_takeN (i := 3) (d := 38) (v := ?_) rfl rfl rfl (by kernel_rfl) (by kernel_rfl) (by kernel_rfl) (fun _ _ _ h => h) (Or.inl ⟨by rfl, ?_⟩) hH ?_
      rotate_left
      · intro w hSw
        try dsimp only at hSw
        go_simp
        try with_reducible rfl
      simp only [LY]
      clear hH
      refine U_one (i := 2) (by kernel_rfl) rfl (fun K hK => ?_)
      go_simp
      (with_reducible refine (r8_from (n := n) (K := k) _ h8 (by omega) (by omega) sl HP.out.1 HP.out.2 (by omega)).mono ?_)
      rintro e w27 ⟨_, rfl, h10, hb⟩
      obtain ⟨sh10, ah10, nh10, ch10, Ah10, Nh10, Ch10, rfl⟩ := h10.shape
      replace hs := bStep hs hb
      replace B1 := B1.mono hb
      replace B0 := B0.mono hb
      replace hu := hu.mono hb
      replace hc := hc.mono hb
      replace h7 := h7.mono hb
      replace h8 := rowsJ RC.kept _ _ _ h8 hb
      replace B2 := cellK B2 hb
      replace B3 := cellK B3 hb
      replace B4 := cellK B4 hb
      clear hb
      try go_wp2_with fail
      refine hK.out _ _ ⟨B2, B3, B4⟩ (fun hH => ?_)
      clear hK K
      try simp only [LY]
      clear hH
      refine U_one (i := 4) (by kernel_rfl) rfl (fun K hK => ?_)
      go_simp
      (with_reducible refine (rCmp h10 hc (SzQ.fit (HTZ.out n k (by omega))) (SzQ.fit sc)).mono ?_)
      rintro e w28 ⟨rfl, hb⟩
      replace hs := bStep hs hb
      replace B1 := B1.mono hb
      replace B0 := B0.mono hb
      replace hu := hu.mono hb
      replace hc := hc.mono hb
      replace h7 := h7.mono hb
      replace h10 := h10.mono hb
      replace h8 := rowsJ RC.kept _ _ _ h8 hb
      replace B2 := cellK B2 hb
      replace B3 := cellK B3 hb
      replace B4 := cellK B4 hb
      clear hb
      rw [← Hsg11.out]
      try go_wp2_with fail
      refine hK.out _ _ ⟨B2, B3, B4⟩ (fun hH => ?_)
      clear hK K
      try simp only [LY]
      refine U_takeN (i := 5) (d := 40) (v := ?_) rfl rfl rfl (by kernel_rfl) (by kernel_rfl) (by kernel_rfl) (fun _ _ _ h => h) (Or.inl ⟨by rfl, ?_⟩) hH ?_
      rotate_left
      · intro w hSw
        try dsimp only at hSw
        go_simp
        try with_reducible rfl
      simp only [LY]
      clear hH
      refine U_endN (by kernel_rfl) ?_
      clear B2 B3 B4
      by_cases q12 : c ≤ tlQ (1 - u) n k
      · have q12_ : 0 ≤ sg11 := by have h := sq_ge (tlQ (1 - u) n k) c; rw [← Hsg11.out] at h; exact h.2 q12
        have q12H := Lib.hid q12
        clear q12
        have q12d : decide (0 ≤ sg11) = true := decide_eq_true q12_
        go_wp2
        go_ret2
        have hk : rkF (1 - u) n c n = k := HI.out.trans (by obtain ⟨d, rfl⟩ : ∃ d, k = d + 1 := ⟨k - 1, by omega⟩; exact rkF_yes q12H.out)
        exact ⟨by rw [← HR.out, ← HE.out, hk, rkE_yes (show k ≠ 0 by omega)]; rfl, hs⟩
      · have q12_ : ¬ (0 ≤ sg11) := by have h := sq_ge (tlQ (1 - u) n k) c; rw [← Hsg11.out] at h; exact fun h1 => q12 (h.1 h1)
        have q12H := Lib.hid q12
        clear q12
        have q12d : decide (0 ≤ sg11) = false := decide_eq_false q12_
        go_wp2
        go_roundw
        case rel => exact ⟨k - 1, by omega, congrArg _ (by omega), hs, B1, B0, hu, hc, h7, h8, HI.out.trans (by obtain ⟨d, rfl⟩ : ∃ d, k = d + 1 := ⟨k - 1, by omega⟩; exact rkF_no q12H.out)⟩
        all_goals first | (simp [intOf]; done) | (simp [intOf]; omega)
    · have q9d : ((0 : Int) < (k : Int)) = False := eq_false (by omega)
      go_wp2
      go_ret2
      have hk : rkF (1 - u) n c n = 0 := HI.out.trans (by obtain rfl : k = 0 := (by omega); rfl)
      exact ⟨by rw [← HR.out, ← HE.out, hk]; rfl, hs⟩
end Go.Proofs.YtlmemilmhdhgbaaGreat
