/-
  Reference 08: alike.
-/
import Derived.Test.YtmnipggjjcmjkaaGreatAlkFQ
set_option linter.unusedSimpArgs false
set_option linter.unusedVariables false
namespace Go.Proofs.YtmnipggjjcmjkaaGreat
open Go.RowKit Dg
attribute [local go_sem ↓] Go.wp_at_zero Go.wp_at_succ

theorem sl_info : (Tryz.prog.info? 47).map (fun i => (i.zero, i.size, i.bytes)) = some (some (.slice none 0 0), 1, 24) := by kernel_rfl
theorem Mk.lt {T : TypeId} {w : World} {g n1 len k : Nat} (h : Mk T w g n1 len k) : g < w.heap.size := by obtain ⟨bs, h1, _, _⟩ := h; exact Bx.lt h1
theorem Mk.free {T : TypeId} {w w1 : World} {g n1 len k : Nat} (h : Mk T w g n1 len k) (hb : Below w.heap.size w w1) (i : Nat) : w1.frozen? ⟨g, i, none⟩ = false := by obtain ⟨bs, h1, _, _⟩ := h; exact Bx.free (Bx.mono h1 hb) i
theorem Mk.tyO {T : TypeId} {w w1 : World} {g n1 len k : Nat} (h : Mk T w g n1 len k) (hb : Below w.heap.size w w1) : TyB T w1 g := by obtain ⟨bs, h1, _, _⟩ := h; exact Bx.ty (Bx.mono h1 hb)
theorem Mk.cellx {T : TypeId} {w w1 : World} {g n1 len k : Nat} (h : Mk T w g n1 len k) (hb : Below w.heap.size w w1) (hk : k < n1) : w1.cell? ⟨g, k, none⟩ = some (.slice none 0 0) := by obtain ⟨bs, h1, _, _⟩ := h; exact Bx.at (Bx.mono h1 hb) k (wyA_ex hk (Nat.lt_irrefl k))

theorem alS_all1 (P : List Int) (m s : Nat) : ((alS P m (fun _ => true) s : Int) : Rat) + ((cnt P m (s : Int) : Int) : Rat) = ((alS P m (fun _ => true) (s + 1) : Int) : Rat) := by
  show _ = (((alS P m (fun _ => true) s + if (true : Bool) = true then cnt P m (s : Int) else 0 : Nat) : Int) : Rat)
  rw [if_pos rfl, Int.natCast_add, Rat.intCast_add]
theorem alS_some1 {P : List Int} {m s : Nat} {M F d : Int} (hd : max ((s : Int) - M) (-((s : Int) - M)) = d) (h : F ≤ d) : ((alS P m (farB M F) s : Int) : Rat) + ((cnt P m (s : Int) : Int) : Rat) = ((alS P m (farB M F) (s + 1) : Int) : Rat) := by
  show _ = (((alS P m (farB M F) s + if farB M F (s : Int) = true then cnt P m (s : Int) else 0 : Nat) : Int) : Rat)
  rw [if_pos (show farB M F (s : Int) = true from decide_eq_true (by unfold offI; omega)), Int.natCast_add, Rat.intCast_add]
theorem alS_some0 {P : List Int} {m s : Nat} {M F d : Int} (hd : max ((s : Int) - M) (-((s : Int) - M)) = d) (h : ¬ F ≤ d) : ((alS P m (farB M F) s : Int) : Rat) = ((alS P m (farB M F) (s + 1) : Int) : Rat) := by
  show _ = (((alS P m (farB M F) s + if farB M F (s : Int) = true then cnt P m (s : Int) else 0 : Nat) : Int) : Rat)
  rw [if_neg (by unfold farB offI; rw [decide_eq_true_eq]; omega), Nat.add_zero]

set_option maxRecDepth 100000 in
set_option maxHeartbeats 64000000 in
theorem r8_alike {va vb : Value} {la lb : List Rat} (w : World) (hx : Rows 3 36 RC w va la) (hy : Rows 3 36 RC w vb lb) (h1 : 1 ≤ la.length) (h2 : 1 ≤ lb.length) (h20 : la.length + lb.length ≤ 20) {L : List Rat} (hLL : L = la ++ lb) (hz : ∀ i, i < L.length → SzQ 100000 (nthQ L i)) {R : List Int} (hRR : R = rkT L L.length) {q : Rat} (hq : alkQ R la.length = q) : Calls Tryz.prog 86 #[va, vb] w (RetQ w q) := by
  have hL : L.length = la.length + lb.length := by rw [hLL, List.length_append]
  have hR : R.length = L.length := by rw [hRR, rkT_len]
  have l1 : L.length ≤ la.length + lb.length := by omega
  have l2 : la.length + lb.length ≤ L.length := by omega
  have l3 : R.length ≤ L.length := by omega
  have l4 : L.length ≤ R.length := by omega
  have hRb : ∀ x ∈ R, 0 ≤ x ∧ x ≤ 1000 := hRR ▸ rkT_bd (by omega) _
  have HLL := Lib.hid hLL
  have HZ := Lib.hid hz
  have HRR := Lib.hid hRR
  have HRB := Lib.hid hRb
  obtain ⟨most, hmo⟩ : ∃ k : Nat, (R.length : Int) * ((R.length : Int) + 1) = (k : Int) := ⟨R.length * (R.length + 1), by simp⟩
  have most1 : (most : Int) ≤ 20 * 21 := by rw [← hmo]; exact Int.mul_le_mul (by omega) (by omega) (by omega) (by omega)
  replace most1 : most ≤ 420 := by omega
  obtain ⟨M, hM⟩ : ∃ M : Int, M = (la.length : Int) * ((R.length : Int) + 1) := ⟨_, rfl⟩
  have M0 : 0 ≤ M := by rw [hM]; exact Int.mul_nonneg (by omega) (by omega)
  have M1 : M ≤ 20 * 21 := by rw [hM]; exact Int.mul_le_mul (by omega) (by omega) (by omega) (by omega)
  obtain ⟨T, hT⟩ : ∃ T, totS R la.length = T := ⟨_, rfl⟩
  have hTb := totS_bd hRb la.length (by omega)
  rw [hT] at hTb
  obtain ⟨T0, T1⟩ : 0 ≤ T ∧ T ≤ 20000 := by omega
  obtain ⟨F, hF⟩ : ∃ F, offI M T = F := ⟨_, rfl⟩
  have HD := Lib.hid (show max (T - M) (-(T - M)) = F by rw [← hF]; unfold offI; omega)
  have HMO := Lib.hid hmo
  have HM := Lib.hid hM
  have HT := Lib.hid hT
  have HF := Lib.hid hF
  have HQ := Lib.hid hq
  clear hL hR hLL hz hRR hRb hmo hM hT hTb hF hq
  obtain ⟨ahx, khx, rfl, hx1, hx2, -⟩ := hx.toI.slice
  obtain ⟨ahy, khy, rfl, hy1, hy2, -⟩ := hy.toI.slice
  obtain ⟨i0, hi, hz0, hz1, hz2⟩ := info_parts rR_info
  obtain ⟨j0, hj, hy0, hy1, hy2⟩ := info_parts sl_info
  have hs := Below.refl w.heap.size w
  go_enter Tryz.func86, Tryz.ntmps86
  go_wp2_with fail
  refine Calls.abs ?_
  intro w1 hW
  have hG : Gr [] w w1 := by rw [hW]; exact (Gr.refl _ _).alloc
  have hbw : Below w.heap.size w w1 := hG.below0 hs.size
  have hk : KeepD w w1 := hG.keep True.intro
  have sz_w1 : w.heap.size ≤ w.heap.size := hs.size
  have Blk : Bx w1 (w.heap.size) 36 #[.bool false, .slice none 0 0, .slice none 0 0] := by rw [hW]; exact (Bx.new0 _ _ _)
  replace hs := hs.trans hbw
  replace hx := rowsJ RC.kept _ _ _ hx (hG.below0 (Nat.le_refl _))
  replace hy := rowsJ RC.kept _ _ _ hy (hG.below0 (Nat.le_refl _))
  clear hW hG hk hbw
  have hz_w1 : w.heap.size < w1.heap.size := Blk.lt
  with_reducible refine (r8_both _ hx hy h1 h2 (by omega)).mono ?_
  rintro e w2 ⟨_, rfl, hc1, hb⟩
  rw [← HLL.out] at hc1
  obtain ⟨bhc1, ohc1, khc1, rfl, hc11, hc12, -⟩ := hc1.open_ (by omega)
  replace hs := bStep hs hb
  replace Blk := Blk.mono hb
  replace hx := rowsJ RC.kept _ _ _ hx hb
  replace hy := rowsJ RC.kept _ _ _ hy hb
  clear hb
  go_wp2_with fail
  with_reducible refine (r8_ranks _ hc1 (by omega) (by omega) HZ.out).mono ?_
  rintro e w3 ⟨_, rfl, hr2, hb⟩
  rw [← HRR.out] at hr2
  obtain ⟨bhr2, ohr2, khr2, rfl, hr21, hr22, -⟩ := hr2.open_ (by omega)
  replace hs := bStep hs hb
  replace Blk := Blk.mono hb
  replace hx := rowsJ RC.kept _ _ _ hx hb
  replace hy := rowsJ RC.kept _ _ _ hy hb
  replace hc1 := rowsJ RC.kept _ _ _ hc1 hb
  clear hb
  go_upto_region 2 with fail
  clear hx hy hc1
  obtain ⟨bhr, hbr_⟩ : ∃ z, z = bhr2 := ⟨_, rfl⟩
  rw [← hbr_] at hr2 ⊢
  obtain ⟨ohr, hor_⟩ : ∃ z, z = ohr2 := ⟨_, rfl⟩
  rw [← hor_] at hr2 ⊢
  obtain ⟨khr, hkr_⟩ : ∃ z, z = khr2 := ⟨_, rfl⟩
  rw [← hkr_] at hr2 ⊢
  clear hbr_ hor_ hkr_
  have hr := hr2
  clear hr2
  generalize hm_ : la.length = m at *
  clear hm_
  have wr1 : IntKind.i64.wrap ((R.length : Int) + 1) = (R.length : Int) + 1 := IntWalk.i64_in _ (by omega)
  have wr2 : IntKind.i64.wrap ((R.length : Int) * ((R.length : Int) + 1)) = (most : Int) := by have h := HMO.out; rw [← h]; exact IntWalk.i64_in _ (by omega)
  have wr3 : IntKind.i64.wrap ((m : Int) + 1) = ((m + 1 : Nat) : Int) := by rw [IntWalk.i64_in _ (by omega)]; omega
  go_wp2_with (at_make; refine wpList.stop ?_)
  refine ⟨?_⟩
  clear wr3
  clear wr1 wr2
  refine wpList_make_full _ rfl _ _ _ rfl w.heap.size 47 j0 _ 1 Tryz.underlying71 hj hy0 hy1 _ _ _ _ (m + 1) rfl rfl (by omega) (by omega) (by rw [hy2]; omega) (by unfold maxLen; omega) hs.size ?_
  intro w4 hown hgrow
  have hb : Below w3.heap.size w3 w4 := (Below.refl _ _).grown hgrow (Nat.le_refl _) (fun k hk => by cases hk)
  obtain ⟨O, hO⟩ : ∃ g, g = w3.heap.size := ⟨_, rfl⟩
  rw [← hO] at hown ⊢
  have lO_k : w.heap.size < w3.heap.size := Blk.lt
  have lO_r : bhr < w3.heap.size := hr.lt (by omega)
  have hO0 : w.heap.size ≤ O := by have := hs.size; omega
  have aO_k : w.heap.size < O := by omega
  have aO_r : bhr < O := by omega
  clear hO lO_r lO_k
  replace hs := bStep hs hb
  replace Blk := Blk.mono hb
  replace hr := rowsJ IC.kept _ _ _ hr hb
  clear hb
  have MK : Mk 47 w4 O (m + 1) (most + 1) 0 := ⟨fun _ => 0, wyA_made hown (by omega), fun j hj => absurd hj (Nat.not_lt_zero _), fun i j h hj => absurd hj (Nat.not_lt_zero _)⟩
  clear hown hgrow
  go_wp2
  go_loopw [10] (fun s10 wq => ∃ k : Nat, k ≤ m + 1 ∧ s10 = .int .i64 k ∧ Below w.heap.size w wq ∧ Bx wq (w.heap.size) 36 #[.bool false, .slice none 0 0, .slice none 0 0] ∧ Rows 1 3 IC wq (.slice (some ⟨bhr, ohr, none⟩) R.length khr) R ∧ (Mk 47 wq O (m + 1) (most + 1) k)) (fun s10 _ => m + 1 - (intOf s10).toNat)
  case atStart => exact ⟨0, Nat.zero_le _, rfl, hs, Blk, hr, MK⟩
  case round =>
    clear Blk hr hs
    obtain ⟨k, k_le, rfl, hs, Blk, hr, MK⟩ := hrel
    replace MK := Lib.hid MK
    by_cases q3 : k ≤ m
    · have q3d : ((k : Int) ≤ (m : Int)) = True := eq_true (by omega)
      go_wp2_with (at_make; refine wpList.stop ?_)
      refine ⟨?_⟩
      refine wpList_make_full _ rfl _ _ _ rfl w.heap.size 36 i0 _ 3 Tryz.underlying47 hi hz0 hz1 _ _ _ _ (most + 1) rfl rfl (by omega) (by omega) (by rw [hz2]; omega) (by unfold maxLen; omega) hs.size ?_
      intro w25 hown hgrow
      have hb : Below wr.heap.size wr w25 := (Below.refl _ _).grown hgrow (Nat.le_refl _) (fun k hk => by cases hk)
      have hOl : O < wr.heap.size := MK.out.lt
      have hrl : bhr < wr.heap.size := hr.lt (by omega)
      have V1 : VecR 36 3 RC w25 wr.heap.size (List.replicate (most + 1) (0 : Rat)) := VecR.made hown (by omega) ⟨_, _, _, rfl, RV.zero _⟩
      replace hs := bStep hs hb
      replace Blk := Blk.mono hb
      replace hr := rowsJ IC.kept _ _ _ hr hb
      have HB := Lib.hid hb
      clear hb hown hgrow
      have fO := MK.out.free HB.out
      have LO : O < w25.heap.size := Nat.lt_of_lt_of_le hOl HB.out.size
      have cO := MK.out.cellx HB.out (show k < m + 1 by omega)
      go_upto_region 7 with fail
      clear fO LO cO
      refine Code.abs ?_
      intro w26 hW
      have hG : Gr [O] w25 w26 := by rw [hW]; exact (Gr.refl _ _).set
      have MK2 : Mk 47 w26 O (m + 1) (most + 1) (k + 1) := MK.out.next (by omega) HB.out V1 (by decide) (by decide) hW
      have hty := MK.out.tyO HB.out
      have hk : KeepD w25 w26 := hG.keep ⟨⟨_, hty, by decide⟩, True.intro⟩
      have hbw : Below w.heap.size w25 w26 := hG.below1 hs.size (by omega)
      replace hs := hs.trans hbw
      replace hr := hr.onlyT IC.kept (hG.onlyT (by intro g hg; simp only [List.mem_cons, List.mem_nil_iff, or_false] at hg; rcases hg with rfl; exact hty)) (by decide) (by decide)
      replace Blk := hG.bx Blk (notMem1 (by omega))
      clear hW hG hk hbw hty HB V1 hOl hrl MK
      replace MK2 := Lib.hid MK2
      go_wp2
      go_roundw
      case rel => exact ⟨k + 1, by omega, by go_num, hs, Blk, hr, MK2.out⟩
      all_goals first | (simp [intOf]; done) | (simp [intOf]; omega)
    · have q3d : ((k : Int) ≤ (m : Int)) = False := eq_false (by omega)
      obtain rfl : k = m + 1 := by omega
      obtain ⟨bs, OUT, MV, HBM⟩ := MK.out
      replace HBM := Lib.hid HBM
      have HBO := Lib.hid (fun j (hj : j ≤ m) => (MV j (by omega)).1)
      have hO_0 : O < bs 0 := HBO.out 0 (by omega)
      have FAM : Fam m bs (FU [] most) 0 wr := fun j hj hn => by have h := (MV j (by omega)).2; rw [wyL_nil hn] at h; exact h
      have Vva := (MV 0 (by omega)).2
      clear MV MK
      go_upto_region 9 with fail
      have BI4a : 0 < (m + 1) := by omega
      have BI4b : (0 : Int) < ((m + 1) : Int) := by omega
      have Eo5 := OUT.at 0 (by omega) (by omega)
      have BI7a : 0 < (most + 1) := by omega
      have BI7b : (0 : Int) < ((most + 1) : Int) := by omega
      refine U_region (S := fun w' => w'.cell? ⟨O, 0, none⟩ = some (.slice (some ⟨bs 0, 0, none⟩) (most + 1) (most + 1))) (by kernel_rfl) 5 ?_
      refine AnyU.abs ?_
      intro w25 hW
      have hb : Below wr.heap.size wr w25 := by rw [hW]; exact bDrew _
      replace hs := bStep hs hb
      replace Blk := Blk.mono hb
      replace hr := rowsJ IC.kept _ _ _ hr hb
      replace OUT := outJ _ _ _ OUT hb
      replace FAM := famJ _ _ _ FAM hb
      replace Vva := VecR.mono RC.kept Vva hb
      replace Eo5 := cellK Eo5 hb
      clear hb hW
      have hH := (show w25.cell? ⟨O, 0, none⟩ = some (.slice (some ⟨bs 0, 0, none⟩) (most + 1) (most + 1)) from Eo5)
      refine U_tt 0 ?_ ?_ hH ?_
      rotate_left
      · (intro w hSw; (try dsimp only at hSw); go_simp; try with_reducible rfl)
      try simp only [LY]
      refine U_tt 1 ?_ ?_ hH ?_
      rotate_left
      · (intro w hSw; (try dsimp only at hSw); go_simp; try with_reducible rfl)
      try simp only [LY]
      refine U_tt 2 ?_ ?_ hH ?_
      rotate_left
      · (intro w hSw; (try dsimp only at hSw); go_simp; try with_reducible rfl)
      try simp only [LY]
      clear hH
      refine U_one (i := 3) (by kernel_rfl) rfl (fun K hK => ?_)
      go_simp
      (with_reducible refine (r_one _).mono ?_)
      rintro e w26 ⟨_, rfl, h6, hb⟩
      obtain ⟨sh6, ah6, nh6, ch6, Ah6, Nh6, Ch6, rfl⟩ := h6.shape
      replace hs := bStep hs hb
      replace Blk := Blk.mono hb
      replace hr := rowsJ IC.kept _ _ _ hr hb
      replace OUT := outJ _ _ _ OUT hb
      replace FAM := famJ _ _ _ FAM hb
      replace Vva := VecR.mono RC.kept Vva hb
      replace Eo5 := cellK Eo5 hb
      clear hb
      try go_wp2_with fail
      refine hK.out _ _ Eo5 (fun hH => ?_)
      clear hK K
      try simp only [LY]
      refine U_tt 4 ?_ ?_ hH ?_
      rotate_left
      · (intro w hSw; (try dsimp only at hSw); go_simp; try with_reducible rfl)
      try simp only [LY]
      clear hH
      have fVva := Vva.free
      have LVva : bs 0 < w26.heap.size := Vva.lt
      obtain ⟨gs_, as_, ns_, cs_, As_, Ns_, Ds_, Es0, Es1, Es2, hs_, ls_⟩ := vecR_at Vva (show 0 < (List.replicate (most + 1) (0 : Rat)).length by rw [List.length_replicate]; omega)
      clear hs_
      simp only [Nat.zero_mul, Nat.zero_add] at Es0 Es1 Es2
      refine U_last (by kernel_rfl) rfl (by kernel_rfl) (fun K hK => ?_)
      go_simp
      refine hK.out _ _ ?_
      clear hK K
      intro w27 hW
      have hG : Gr [bs 0] w26 w27 := by rw [hW]; exact (Gr.refl _ _).set.set.set
      have hsz := hs.size
      have hbw : Below w.heap.size w26 w27 := hG.below1 hs.size (by first | omega | assumption)
      have hk : KeepD w26 w27 := hG.keep ⟨⟨_, Vva.ty, by decide⟩, True.intro⟩
      have V1va : VecR 36 3 RC w27 (bs 0) ((List.replicate (most + 1) (0 : Rat)).set 0 (1)) := by rw [hW]; exact (Vva.put3 RC.kept (show 0 < (List.replicate (most + 1) (0 : Rat)).length by (rw [List.length_replicate]; omega)) (by decide) ⟨_, _, _, rfl, h6⟩ ((Gr.refl _ _)))
      rw [wyL_one] at V1va
      replace hs := hs.trans hbw
      replace hr := hr.onlyT IC.kept (hG.onlyT (by intro g hg; simp only [List.mem_cons, List.mem_nil_iff, or_false] at hg; rcases hg with rfl <;> first | exact Vva.ty)) (by decide) (by decide)
      replace OUT := OUT.gr hG (notMem1 (by omega))
      replace FAM := FAM.gr hG (fun j hj hn => notMem1 (bsNe HBM.out hj (show 0 ≤ m by omega) hn)) hk
      replace Blk := hG.bx Blk (notMem1 (by omega))
      replace Vva := V1va
      clear V1va
      replace h6 := h6.keep hk
      clear hW hG hk hbw hsz
      try simp only [LY]
      clear Eo5
      clear Es0 Es1 Es2 ls_
      replace FAM := Fam.back (F' := FU (pR R 0) most) FAM Vva (fun j _ _ => by rw [pR_zero]) (by rw [pR_zero]; rfl)
      clear Vva
      go_wp2
      go_loopw [11] (fun s11 wq => ∃ i : Nat, i ≤ R.length ∧ s11 = .int .i64 i ∧ Below w.heap.size w wq ∧ Bx wq (w.heap.size) 36 #[.bool false, .slice none 0 0, .slice none 0 0] ∧ RV wq (.agg #[.bool sh6, .slice ah6 nh6 ch6, .slice Ah6 Nh6 Ch6]) (1) ∧ Rows 1 3 IC wq (.slice (some ⟨bhr, ohr, none⟩) R.length khr) R ∧ OutX 47 wq O bs (m + 1) (most + 1) (m + 1) ∧ (Fam m bs (FU (pR R i) most) (m + 1) wq)) (fun s11 _ => R.length - (intOf s11).toNat)
      case atStart => exact ⟨0, Nat.zero_le _, rfl, hs, Blk, h6, hr, OUT, FAM⟩
      case round =>
        clear Blk h6 hr OUT hs
        obtain ⟨i, k_le, rfl, hs, Blk, h6, hr, OUT, FAM⟩ := hrel
        replace FAM := Lib.hid FAM
        replace FAM := FAM.out
        have HPL := Lib.hid (show (pR R i).length ≤ 20 from Nat.le_trans (pR_len R i) (by omega))
        have HPB := Lib.hid (pR_bd HRB.out i)
        by_cases q8 : i < R.length
        · have q8d : ((i : Int) < (R.length : Int)) = True := eq_true (by omega)
          obtain ⟨r, HR⟩ : ∃ z : Int, nthI R i = z := ⟨_, rfl⟩
          obtain ⟨r1, r2⟩ : 1 ≤ r ∧ r ≤ 1000 := by have hm := List.mem_of_getElem? (nthI_some (show i < R.length by omega)); rw [HR] at hm; exact ⟨rk_pos HRR.out hm, (HRB.out _ hm).2⟩
          replace HR := Lib.hid HR
          go_wp2
          go_loopw [12] (fun s12 wq => ∃ k : Nat, k ≤ m ∧ s12 = .int .i64 k ∧ Below w.heap.size w wq ∧ Bx wq (w.heap.size) 36 #[.bool false, .slice none 0 0, .slice none 0 0] ∧ RV wq (.agg #[.bool sh6, .slice ah6 nh6 ch6, .slice Ah6 Nh6 Ch6]) (1) ∧ Rows 1 3 IC wq (.slice (some ⟨bhr, ohr, none⟩) R.length khr) R ∧ OutX 47 wq O bs (m + 1) (most + 1) (m + 1) ∧ (Fam m bs (FF (pR R i) r most k) (m + 1) wq)) (fun s12 _ => (intOf s12).toNat)
          case atStart => exact ⟨m, Nat.le_refl _, rfl, hs, Blk, h6, hr, OUT, FAM.congr (fun j hj => FF_start hj)⟩
          case round =>
            clear Blk h6 hr OUT hs
            obtain ⟨k, k_le, rfl, hs, Blk, h6, hr, OUT, FAM⟩ := hrel
            replace FAM := Lib.hid FAM
            replace FAM := FAM.out
            by_cases q9 : 0 < k
            · have q9d : ((0 : Int) < (k : Int)) = True := eq_true (by omega)
              obtain ⟨Vva, FAMk⟩ := FAM.out (show k ≤ m by omega)
              rw [FF_at] at Vva
              replace FAM := FAMk
              clear FAMk
              have hOk : O < bs k := HBO.out k (by omega)
              go_wp2
              go_loopw [13] (fun s13 wq => ∃ s : Nat, s ≤ most ∧ s13 = .int .i64 s ∧ Below w.heap.size w wq ∧ Bx wq (w.heap.size) 36 #[.bool false, .slice none 0 0, .slice none 0 0] ∧ RV wq (.agg #[.bool sh6, .slice ah6 nh6 ch6, .slice Ah6 Nh6 Ch6]) (1) ∧ Rows 1 3 IC wq (.slice (some ⟨bhr, ohr, none⟩) R.length khr) R ∧ OutX 47 wq O bs (m + 1) (most + 1) (m + 1) ∧ Fam m bs (FF (pR R i) r most k) k wq ∧ (VecR 36 3 RC wq (bs k) (wzL (pR R i) r k most (s + 1)))) (fun s13 _ => (intOf s13).toNat)
              case atStart => exact ⟨most, Nat.le_refl _, rfl, hs, Blk, h6, hr, OUT, FAM, (by rw [wzL_start]; exact Vva)⟩
              case round =>
                clear Blk h6 hr OUT FAM hs
                obtain ⟨s, k_le, rfl, hs, Blk, h6, hr, OUT, FAM, Vva⟩ := hrel
                replace Vva := Lib.hid Vva
                replace Vva := Vva.out
                have BI10a : i < R.length := by omega
                have BI10b : ((i : Int) : Int) < (R.length : Int) := by omega
                obtain ⟨Ee110, le11⟩ := rowI_at hr (show i < R.length by omega)
                simp only [Nat.mul_one] at Ee110
                rw [HR.out] at Ee110
                by_cases q12 : r ≤ (s : Int)
                · have q12d : (r ≤ (s : Int)) = True := eq_true (by omega)
                  go_upto_region 19 with fail
                  clear le11 Ee110
                  have SW13a := IntWalk.i64_in ((k : Int) - 1) (by omega)
                  have SW13b : (0 : Int) ≤ (k : Int) - 1 := by omega
                  have SW13c : ((k : Int) - 1).toNat = (k - 1) := by omega
                  have SW13d : (k : Int) - 1 < ((m + 1) : Int) := by omega
                  have SW13e : (1 : Int) ≤ (k : Int) := by omega
                  have SW13f : (k : Int) < ((m + 1) : Int) + 1 := by omega
                  have BI14a : (k - 1) < (m + 1) := by omega
                  have BI14b : ((k : Int) - 1 : Int) < ((m + 1) : Int) := by omega
                  have Eo15 := OUT.at (k - 1) (by omega) (by omega)
                  obtain ⟨Ee160, le16⟩ := rowI_at hr (show i < R.length by omega)
                  simp only [Nat.mul_one] at Ee160
                  rw [HR.out] at Ee160
                  obtain ⟨u, hu1, hu2⟩ : ∃ u : Nat, (s : Int) - r ≤ (u : Int) ∧ (u : Int) ≤ (s : Int) - r := ⟨((s : Int) - r).toNat, by omega, by omega⟩
                  have hu3 : u < most + 1 := by omega
                  have wu1 : IntKind.i64.wrap ((s : Int) - r) = (u : Int) := by rw [IntWalk.i64_in _ (by omega)]; omega
                  have BI17a : u < (most + 1) := by omega
                  have BI17b : ((u : Int) : Int) < ((most + 1) : Int) := by omega
                  obtain ⟨ge18, ae18, ne18, ce18, Ae18, Ne18, De18, Ee180, Ee181, Ee182, he18, le18⟩ := vecR_at (FAM.atP (j := (k - 1)) (by omega) (by omega) (by omega)) (show u < (wyL (pR R i) (k - 1) most).length by rw [wyL_len]; omega)
                  rw [wyL_at (by omega)] at he18
                  obtain ⟨b19, Hb19⟩ : ∃ b : Bool, b = decide (((cnt (pR R i) (k - 1) (u : Int) : Int) : Rat) = 0) := ⟨_, rfl⟩
                  replace Hb19 := Lib.hid Hb19
                  refine U_region (S := fun w' => w'.cell? ⟨O, (k - 1), none⟩ = some (.slice (some ⟨bs (k - 1), 0, none⟩) (most + 1) (most + 1)) ∧ w'.cell? ⟨bhr, ohr + i, none⟩ = some (.int .i64 r) ∧ w'.cell? ⟨bs (k - 1), u * 3, none⟩ = some (.bool ge18) ∧ w'.cell? ⟨bs (k - 1), u * 3 + 1, none⟩ = some (.slice ae18 ne18 ce18) ∧ w'.cell? ⟨bs (k - 1), u * 3 + 2, none⟩ = some (.slice Ae18 Ne18 De18)) (by kernel_rfl) 15 ?_
                  refine AnyU.abs ?_
                  intro w88 hW
                  have hb : Below wr.heap.size wr w88 := by rw [hW]; exact bDrew _
                  replace hs := bStep hs hb
                  replace Blk := Blk.mono hb
                  replace h6 := h6.mono hb
                  replace he18 := he18.mono hb
                  replace hr := rowsJ IC.kept _ _ _ hr hb
                  replace OUT := outJ _ _ _ OUT hb
                  replace FAM := famJ _ _ _ FAM hb
                  replace Vva := VecR.mono RC.kept Vva hb
                  replace Eo15 := cellK Eo15 hb
                  replace Ee160 := cellK Ee160 hb
                  replace Ee180 := cellK Ee180 hb
                  replace Ee181 := cellK Ee181 hb
                  replace Ee182 := cellK Ee182 hb
                  clear hb hW
                  have hH := (show w88.cell? ⟨O, (k - 1), none⟩ = some (.slice (some ⟨bs (k - 1), 0, none⟩) (most + 1) (most + 1)) ∧ w88.cell? ⟨bhr, ohr + i, none⟩ = some (.int .i64 r) ∧ w88.cell? ⟨bs (k - 1), u * 3, none⟩ = some (.bool ge18) ∧ w88.cell? ⟨bs (k - 1), u * 3 + 1, none⟩ = some (.slice ae18 ne18 ce18) ∧ w88.cell? ⟨bs (k - 1), u * 3 + 2, none⟩ = some (.slice Ae18 Ne18 De18) from ⟨Eo15, Ee160, Ee180, Ee181, Ee182⟩)
                  refine U_tk 0 71 ?_ ?_ hH ?_
                  rotate_left
                  · (intro w hSw; (try dsimp only at hSw); go_simp; try with_reducible rfl)
                  simp only [LY]
                  refine U_tk 1 72 ?_ ?_ hH ?_
                  rotate_left
                  · (intro w hSw; (try dsimp only at hSw); go_simp; try with_reducible rfl)
                  simp only [LY]
                  refine U_tk 2 73 ?_ ?_ hH ?_
                  rotate_left
                  · (intro w hSw; (try dsimp only at hSw); go_simp; try with_reducible rfl)
                  simp only [LY]
                  refine U_tk 3 74 ?_ ?_ hH ?_
                  rotate_left
                  · (intro w hSw; (try dsimp only at hSw); go_simp; try with_reducible rfl)
                  simp only [LY]
                  refine U_tk 4 75 ?_ ?_ hH ?_
                  rotate_left
                  · (intro w hSw; (try dsimp only at hSw); go_simp; try with_reducible rfl)
                  simp only [LY]
                  refine U_tk 5 76 ?_ ?_ hH ?_
                  rotate_left
                  · (intro w hSw; (try dsimp only at hSw); go_simp; try with_reducible rfl)
                  simp only [LY]
                  refine U_tk 6 77 ?_ ?_ hH ?_
                  rotate_left
                  · (intro w hSw; (try dsimp only at hSw); go_simp; try with_reducible rfl)
                  simp only [LY]
                  refine U_tk 7 78 ?_ ?_ hH ?_
                  rotate_left
                  · (intro w hSw; (try dsimp only at hSw); go_simp; try with_reducible rfl)
                  simp only [LY]
                  refine U_tk 8 79 ?_ ?_ hH ?_
                  rotate_left
                  · (intro w hSw; (try dsimp only at hSw); go_simp; try with_reducible rfl)
                  simp only [LY]
                  refine U_tk 9 80 ?_ ?_ hH ?_
                  rotate_left
                  · (intro w hSw; (try dsimp only at hSw); go_simp; try with_reducible rfl)
                  simp only [LY]
                  refine U_tk 10 81 ?_ ?_ hH ?_
                  rotate_left
                  · (intro w hSw; (try dsimp only at hSw); go_simp; try with_reducible rfl)
                  simp only [LY]
                  refine U_tk 11 82 ?_ ?_ hH ?_
                  rotate_left
                  · (intro w hSw; (try dsimp only at hSw); go_simp; try with_reducible rfl)
                  simp only [LY]
                  refine U_tk 12 83 ?_ ?_ hH ?_
                  rotate_left
                  · (intro w hSw; (try dsimp only at hSw); go_simp; try with_reducible rfl)
                  simp only [LY]
                  clear hH
                  refine U_one (i := 13) (by kernel_rfl) rfl (fun K hK => ?_)
                  go_simp
                  (with_reducible refine (r_Zero_calls _ _ _ he18).mono ?_)
                  rintro e w89 ⟨rfl, hb⟩
                  replace hs := bStep hs hb
                  replace Blk := Blk.mono hb
                  replace h6 := h6.mono hb
                  replace he18 := he18.mono hb
                  replace hr := rowsJ IC.kept _ _ _ hr hb
                  replace OUT := outJ _ _ _ OUT hb
                  replace FAM := famJ _ _ _ FAM hb
                  replace Vva := VecR.mono RC.kept Vva hb
                  replace Eo15 := cellK Eo15 hb
                  replace Ee160 := cellK Ee160 hb
                  replace Ee180 := cellK Ee180 hb
                  replace Ee181 := cellK Ee181 hb
                  replace Ee182 := cellK Ee182 hb
                  clear hb
                  rw [← Hb19.out]
                  try go_wp2_with fail
                  refine hK.out _ _ ⟨Eo15, Ee160, Ee180, Ee181, Ee182⟩ (fun hH => ?_)
                  clear hK K
                  try simp only [LY]
                  refine U_tk 14 85 ?_ ?_ hH ?_
                  rotate_left
                  · (intro w hSw; (try dsimp only at hSw); go_simp; try with_reducible rfl)
                  simp only [LY]
                  clear hH
                  refine U_endN (by kernel_rfl) ?_
                  clear Eo15 Ee160 Ee180 Ee181 Ee182
                  by_cases q20 : ((cnt (pR R i) (k - 1) (u : Int) : Int) : Rat) = 0
                  · obtain rfl : b19 = true := by rw [Hb19.out]; exact decide_eq_true q20
                    have q20H := Lib.hid q20
                    clear q20
                    go_wp2
                    go_roundw
                    case rel => exact ⟨s - 1, by omega, congrArg _ (by omega), hs, Blk, h6, hr, OUT, FAM, (by rw [show s - 1 + 1 = s by omega, ← wz_skip (u := (u : Int)) (show 0 < k by omega) (by omega) q20H.out]; exact Vva)⟩
                    all_goals first | (simp [intOf]; done) | (simp [intOf]; omega)
                  · obtain rfl : b19 = false := by rw [Hb19.out]; exact decide_eq_false q20
                    have q20H := Lib.hid q20
                    clear q20
                    go_upto_region 20 with fail
                    clear le16 le18
                    have BI21a : k < (m + 1) := by omega
                    have BI21b : ((k : Int) : Int) < ((m + 1) : Int) := by omega
                    have Eo22 := OUT.at k (by omega) (by omega)
                    have BI23a : s < (most + 1) := by omega
                    have BI23b : ((s : Int) : Int) < ((most + 1) : Int) := by omega
                    obtain ⟨ge24, ae24, ne24, ce24, Ae24, Ne24, De24, Ee240, Ee241, Ee242, he24, le24⟩ := vecR_at Vva (show s < (wzL (pR R i) r k most (s + 1)).length by (rw [wzL_len]; omega))
                    rw [wzL_at (by omega) (by omega)] at he24
                    have Eo25 := OUT.at (k - 1) (by omega) (by omega)
                    obtain ⟨Ee260, le26⟩ := rowI_at hr (show i < R.length by omega)
                    simp only [Nat.mul_one] at Ee260
                    rw [HR.out] at Ee260
                    obtain ⟨ge27, ae27, ne27, ce27, Ae27, Ne27, De27, Ee270, Ee271, Ee272, he27, le27⟩ := vecR_at (FAM.atP (j := (k - 1)) (by omega) (by omega) (by omega)) (show u < (wyL (pR R i) (k - 1) most).length by rw [wyL_len]; omega)
                    rw [wyL_at (by omega)] at he27
                    refine U_region (S := fun w' => w'.cell? ⟨O, k, none⟩ = some (.slice (some ⟨bs k, 0, none⟩) (most + 1) (most + 1)) ∧ w'.cell? ⟨bs k, s * 3, none⟩ = some (.bool ge24) ∧ w'.cell? ⟨bs k, s * 3 + 1, none⟩ = some (.slice ae24 ne24 ce24) ∧ w'.cell? ⟨bs k, s * 3 + 2, none⟩ = some (.slice Ae24 Ne24 De24) ∧ w'.cell? ⟨O, (k - 1), none⟩ = some (.slice (some ⟨bs (k - 1), 0, none⟩) (most + 1) (most + 1)) ∧ w'.cell? ⟨bhr, ohr + i, none⟩ = some (.int .i64 r) ∧ w'.cell? ⟨bs (k - 1), u * 3, none⟩ = some (.bool ge27) ∧ w'.cell? ⟨bs (k - 1), u * 3 + 1, none⟩ = some (.slice ae27 ne27 ce27) ∧ w'.cell? ⟨bs (k - 1), u * 3 + 2, none⟩ = some (.slice Ae27 Ne27 De27)) (by kernel_rfl) 27 ?_
                    refine AnyU.abs ?_
                    intro w90 hW
                    have hb : Below w89.heap.size w89 w90 := by rw [hW]; exact bDrew _
                    replace hs := bStep hs hb
                    replace Blk := Blk.mono hb
                    replace h6 := h6.mono hb
                    replace he18 := he18.mono hb
                    replace he24 := he24.mono hb
                    replace he27 := he27.mono hb
                    replace hr := rowsJ IC.kept _ _ _ hr hb
                    replace OUT := outJ _ _ _ OUT hb
                    replace FAM := famJ _ _ _ FAM hb
                    replace Vva := VecR.mono RC.kept Vva hb
                    replace Eo22 := cellK Eo22 hb
                    replace Ee240 := cellK Ee240 hb
                    replace Ee241 := cellK Ee241 hb
                    replace Ee242 := cellK Ee242 hb
                    replace Eo25 := cellK Eo25 hb
                    replace Ee260 := cellK Ee260 hb
                    replace Ee270 := cellK Ee270 hb
                    replace Ee271 := cellK Ee271 hb
                    replace Ee272 := cellK Ee272 hb
                    clear hb hW
                    have hH := (show w90.cell? ⟨O, k, none⟩ = some (.slice (some ⟨bs k, 0, none⟩) (most + 1) (most + 1)) ∧ w90.cell? ⟨bs k, s * 3, none⟩ = some (.bool ge24) ∧ w90.cell? ⟨bs k, s * 3 + 1, none⟩ = some (.slice ae24 ne24 ce24) ∧ w90.cell? ⟨bs k, s * 3 + 2, none⟩ = some (.slice Ae24 Ne24 De24) ∧ w90.cell? ⟨O, (k - 1), none⟩ = some (.slice (some ⟨bs (k - 1), 0, none⟩) (most + 1) (most + 1)) ∧ w90.cell? ⟨bhr, ohr + i, none⟩ = some (.int .i64 r) ∧ w90.cell? ⟨bs (k - 1), u * 3, none⟩ = some (.bool ge27) ∧ w90.cell? ⟨bs (k - 1), u * 3 + 1, none⟩ = some (.slice ae27 ne27 ce27) ∧ w90.cell? ⟨bs (k - 1), u * 3 + 2, none⟩ = some (.slice Ae27 Ne27 De27) from ⟨Eo22, Ee240, Ee241, Ee242, Eo25, Ee260, Ee270, Ee271, Ee272⟩)
                    refine U_tt 0 ?_ ?_ hH ?_
                    rotate_left
                    · (intro w hSw; (try dsimp only at hSw); go_simp; try with_reducible rfl)
                    try simp only [LY]
                    refine U_tt 1 ?_ ?_ hH ?_
                    rotate_left
                    · (intro w hSw; (try dsimp only at hSw); go_simp; try with_reducible rfl)
                    try simp only [LY]
                    refine U_tt 2 ?_ ?_ hH ?_
                    rotate_left
                    · (intro w hSw; (try dsimp only at hSw); go_simp; try with_reducible rfl)
                    try simp only [LY]
                    refine U_tt 3 ?_ ?_ hH ?_
                    rotate_left
                    · (intro w hSw; (try dsimp only at hSw); go_simp; try with_reducible rfl)
                    try simp only [LY]
                    refine U_tt 4 ?_ ?_ hH ?_
                    rotate_left
                    · (intro w hSw; (try dsimp only at hSw); go_simp; try with_reducible rfl)
                    try simp only [LY]
                    refine U_tt 5 ?_ ?_ hH ?_
                    rotate_left
                    · (intro w hSw; (try dsimp only at hSw); go_simp; try with_reducible rfl)
                    try simp only [LY]
                    refine U_tt 6 ?_ ?_ hH ?_
                    rotate_left
                    · (intro w hSw; (try dsimp only at hSw); go_simp; try with_reducible rfl)
                    try simp only [LY]
                    refine U_tt 7 ?_ ?_ hH ?_
                    rotate_left
                    · (intro w hSw; (try dsimp only at hSw); go_simp; try with_reducible rfl)
                    try simp only [LY]
                    refine U_tt 8 ?_ ?_ hH ?_
                    rotate_left
                    · (intro w hSw; (try dsimp only at hSw); go_simp; try with_reducible rfl)
                    try simp only [LY]
                    refine U_tt 9 ?_ ?_ hH ?_
                    rotate_left
                    · (intro w hSw; (try dsimp only at hSw); go_simp; try with_reducible rfl)
                    try simp only [LY]
                    refine U_tt 10 ?_ ?_ hH ?_
                    rotate_left
                    · (intro w hSw; (try dsimp only at hSw); go_simp; try with_reducible rfl)
                    try simp only [LY]
                    refine U_tt 11 ?_ ?_ hH ?_
                    rotate_left
                    · (intro w hSw; (try dsimp only at hSw); go_simp; try with_reducible rfl)
                    try simp only [LY]
                    refine U_tt 12 ?_ ?_ hH ?_
                    rotate_left
                    · (intro w hSw; (try dsimp only at hSw); go_simp; try with_reducible rfl)
                    try simp only [LY]
                    refine U_tt 13 ?_ ?_ hH ?_
                    rotate_left
                    · (intro w hSw; (try dsimp only at hSw); go_simp; try with_reducible rfl)
                    try simp only [LY]
                    refine U_tt 14 ?_ ?_ hH ?_
                    rotate_left
                    · (intro w hSw; (try dsimp only at hSw); go_simp; try with_reducible rfl)
                    try simp only [LY]
                    refine U_tt 15 ?_ ?_ hH ?_
                    rotate_left
                    · (intro w hSw; (try dsimp only at hSw); go_simp; try with_reducible rfl)
                    try simp only [LY]
                    refine U_tt 16 ?_ ?_ hH ?_
                    rotate_left
                    · (intro w hSw; (try dsimp only at hSw); go_simp; try with_reducible rfl)
                    try simp only [LY]
                    refine U_tt 17 ?_ ?_ hH ?_
                    rotate_left
                    · (intro w hSw; (try dsimp only at hSw); go_simp; try with_reducible rfl)
                    try simp only [LY]
                    refine U_tt 18 ?_ ?_ hH ?_
                    rotate_left
                    · (intro w hSw; (try dsimp only at hSw); go_simp; try with_reducible rfl)
                    try simp only [LY]
                    refine U_tt 19 ?_ ?_ hH ?_
                    rotate_left
                    · (intro w hSw; (try dsimp only at hSw); go_simp; try with_reducible rfl)
                    try simp only [LY]
                    refine U_tt 20 ?_ ?_ hH ?_
                    rotate_left
                    · (intro w hSw; (try dsimp only at hSw); go_simp; try with_reducible rfl)
                    try simp only [LY]
                    refine U_tt 21 ?_ ?_ hH ?_
                    rotate_left
                    · (intro w hSw; (try dsimp only at hSw); go_simp; try with_reducible rfl)
                    try simp only [LY]
                    refine U_tt 22 ?_ ?_ hH ?_
                    rotate_left
                    · (intro w hSw; (try dsimp only at hSw); go_simp; try with_reducible rfl)
                    try simp only [LY]
                    refine U_tt 23 ?_ ?_ hH ?_
                    rotate_left
                    · (intro w hSw; (try dsimp only at hSw); go_simp; try with_reducible rfl)
                    try simp only [LY]
                    refine U_tt 24 ?_ ?_ hH ?_
                    rotate_left
                    · (intro w hSw; (try dsimp only at hSw); go_simp; try with_reducible rfl)
                    try simp only [LY]
                    clear hH
                    refine U_one (i := 25) (by kernel_rfl) rfl (fun K hK => ?_)
                    go_simp
                    (with_reducible refine (rAdd he24 he27 (SzQ.fit (cnt_sz HPL.out _ _)) (SzQ.fit (cnt_sz HPL.out _ _))).mono ?_)
                    rintro e w91 ⟨_, rfl, h28, hb⟩
                    obtain ⟨sh28, ah28, nh28, ch28, Ah28, Nh28, Ch28, rfl⟩ := h28.shape
                    replace hs := bStep hs hb
                    replace Blk := Blk.mono hb
                    replace h6 := h6.mono hb
                    replace he18 := he18.mono hb
                    replace he24 := he24.mono hb
                    replace he27 := he27.mono hb
                    replace hr := rowsJ IC.kept _ _ _ hr hb
                    replace OUT := outJ _ _ _ OUT hb
                    replace FAM := famJ _ _ _ FAM hb
                    replace Vva := VecR.mono RC.kept Vva hb
                    replace Eo22 := cellK Eo22 hb
                    replace Ee240 := cellK Ee240 hb
                    replace Ee241 := cellK Ee241 hb
                    replace Ee242 := cellK Ee242 hb
                    replace Eo25 := cellK Eo25 hb
                    replace Ee260 := cellK Ee260 hb
                    replace Ee270 := cellK Ee270 hb
                    replace Ee271 := cellK Ee271 hb
                    replace Ee272 := cellK Ee272 hb
                    clear hb
                    try go_wp2_with fail
                    refine hK.out _ _ ⟨Eo22, Ee240, Ee241, Ee242, Eo25, Ee260, Ee270, Ee271, Ee272⟩ (fun hH => ?_)
                    clear hK K
                    try simp only [LY]
                    refine U_tt 26 ?_ ?_ hH ?_
                    rotate_left
                    · (intro w hSw; (try dsimp only at hSw); go_simp; try with_reducible rfl)
                    try simp only [LY]
                    clear hH
                    have fVva := Vva.free
                    have LVva : bs k < w91.heap.size := Vva.lt
                    refine U_last (by kernel_rfl) rfl (by kernel_rfl) (fun K hK => ?_)
                    go_simp
                    refine hK.out _ _ ?_
                    clear hK K
                    intro w92 hW
                    have hG : Gr [bs k] w91 w92 := by rw [hW]; exact (Gr.refl _ _).set.set.set
                    have hsz := hs.size
                    have hbw : Below w.heap.size w91 w92 := hG.below1 hs.size (by first | omega | assumption)
                    have hk : KeepD w91 w92 := hG.keep ⟨⟨_, Vva.ty, by decide⟩, True.intro⟩
                    have V1va : VecR 36 3 RC w92 (bs k) ((wzL (pR R i) r k most (s + 1)).set s ((((cnt (pR R i) k (s : Int) : Int) : Rat)) + (((cnt (pR R i) (k - 1) (u : Int) : Int) : Rat)))) := by rw [hW]; exact (Vva.put3 RC.kept (show s < (wzL (pR R i) r k most (s + 1)).length by (rw [wzL_len]; omega)) (by decide) ⟨_, _, _, rfl, h28⟩ ((Gr.refl _ _)))
                    rw [wz_set (u := (u : Int)) (show 0 < k by omega) (show s ≤ most by omega) (by omega)] at V1va
                    replace hs := hs.trans hbw
                    replace hr := hr.onlyT IC.kept (hG.onlyT (by intro g hg; simp only [List.mem_cons, List.mem_nil_iff, or_false] at hg; rcases hg with rfl <;> first | exact Vva.ty)) (by decide) (by decide)
                    replace OUT := OUT.gr hG (notMem1 (by omega))
                    replace FAM := FAM.gr hG (fun j hj hn => notMem1 (bsNe HBM.out hj (show k ≤ m by omega) hn)) hk
                    replace Blk := hG.bx Blk (notMem1 (by omega))
                    replace Vva := V1va
                    clear V1va
                    replace h6 := h6.keep hk
                    replace he18 := he18.keep hk
                    replace he24 := he24.keep hk
                    replace he27 := he27.keep hk
                    replace h28 := h28.keep hk
                    clear hW hG hk hbw hsz
                    try simp only [LY]
                    clear Eo22 Ee240 Ee241 Ee242 Eo25 Ee260 Ee270 Ee271 Ee272
                    go_wp2
                    go_roundw
                    case rel => exact ⟨s - 1, by omega, congrArg _ (by omega), hs, Blk, h6, hr, OUT, FAM, (by rw [show s - 1 + 1 = s by omega]; exact Vva)⟩
                    all_goals first | (simp [intOf]; done) | (simp [intOf]; omega)
                · have q12d : (r ≤ (s : Int)) = False := eq_false (by omega)
                  rw [wz_end HPB.out (show 0 < k by omega) (by omega)] at Vva
                  replace FAM := Fam.back (F' := FF (pR R i) r most (k - 1)) FAM Vva (fun j _ hj => FF_next (by omega) hj) (FF_here (by omega))
                  clear Vva hOk
                  go_wp2
                  go_roundw
                  case rel => exact ⟨k - 1, by omega, congrArg _ (by omega), hs, Blk, h6, hr, OUT, FAM⟩
                  all_goals first | (simp [intOf]; done) | (simp [intOf]; omega)
            · have q9d : ((0 : Int) < (k : Int)) = False := eq_false (by omega)
              obtain rfl : k = 0 := by omega
              replace FAM : Fam m bs (FU (pR R (i + 1)) most) (m + 1) wr := FAM.congr (fun j _ => by rw [pR_next (by omega) HR.out]; exact FF_end)
              go_wp2
              go_roundw
              case rel => exact ⟨i + 1, by omega, by go_num, hs, Blk, h6, hr, OUT, FAM⟩
              all_goals first | (simp [intOf]; done) | (simp [intOf]; omega)
        · have q8d : ((i : Int) < (R.length : Int)) = False := eq_false (by omega)
          obtain rfl : i = R.length := by omega
          have wr1 : IntKind.i64.wrap ((R.length : Int) + 1) = (R.length : Int) + 1 := IntWalk.i64_in _ (by omega)
          have wr2 : IntKind.i64.wrap ((m : Int) * ((R.length : Int) + 1)) = M := by have h := HM.out; rw [← h]; exact IntWalk.i64_in _ (by omega)
          go_wp2_with fail
          clear wr1 wr2
          with_reducible refine (r8_rankSum (m := m) _ hr (by omega) (by omega) (by omega) HRB.out HT.out).mono ?_
          rintro e w48 ⟨rfl, hb⟩
          replace hs := bStep hs hb
          replace Blk := Blk.mono hb
          replace h6 := h6.mono hb
          replace hr := rowsJ IC.kept _ _ _ hr hb
          replace OUT := outJ _ _ _ OUT hb
          replace FAM := famJ _ _ _ FAM hb
          clear hb
          go_wp2_with fail
          with_reducible refine (r8_distance _ (by omega) (by omega) HD.out).mono ?_
          rintro e w49 ⟨rfl, hb⟩
          replace hs := bStep hs hb
          replace Blk := Blk.mono hb
          replace h6 := h6.mono hb
          replace hr := rowsJ IC.kept _ _ _ hr hb
          replace OUT := outJ _ _ _ OUT hb
          replace FAM := famJ _ _ _ FAM hb
          clear hb
          go_wp2_with fail
          with_reducible refine (r_zero _).mono ?_
          rintro e w50 ⟨_, rfl, h9, hb⟩
          obtain ⟨sh9, ah9, nh9, ch9, Ah9, Nh9, Ch9, rfl⟩ := h9.shape
          replace hs := bStep hs hb
          replace Blk := Blk.mono hb
          replace h6 := h6.mono hb
          replace hr := rowsJ IC.kept _ _ _ hr hb
          replace OUT := outJ _ _ _ OUT hb
          replace FAM := famJ _ _ _ FAM hb
          clear hb
          go_wp2_with fail
          with_reducible refine (r_zero _).mono ?_
          rintro e w51 ⟨_, rfl, h10, hb⟩
          obtain ⟨sh10, ah10, nh10, ch10, Ah10, Nh10, Ch10, rfl⟩ := h10.shape
          replace hs := bStep hs hb
          replace Blk := Blk.mono hb
          replace h6 := h6.mono hb
          replace h9 := h9.mono hb
          replace hr := rowsJ IC.kept _ _ _ hr hb
          replace OUT := outJ _ _ _ OUT hb
          replace FAM := famJ _ _ _ FAM hb
          clear hb
          go_wp2
          refine Code.abs ?_
          intro w52 hW
          have hG : Gr [] w51 w52 := by rw [hW]; exact (Gr.refl _ _).alloc.alloc
          have hbw : Below w.heap.size w51 w52 := hG.below0 hs.size
          have hk : KeepD w51 w52 := hG.keep True.intro
          have sz_w52 : w.heap.size ≤ w51.heap.size := hs.size
          have nk_w52 : w.heap.size < w51.heap.size := Blk.lt
          have nhr_w52 : bhr < w51.heap.size := hr.lt (by omega)
          have nOUT_w52 : O < w51.heap.size := OUT.lt (by omega)
          have nFAM_w52 : bs m < w51.heap.size := FAM.lt (by omega)
          have Blall : Bx w52 (w51.heap.size) 36 #[.bool sh9, .slice ah9 nh9 ch9, .slice Ah9 Nh9 Ch9] := by rw [hW]; exact ((Bx.new0 _ _ _).alloc _)
          have Blsome : Bx w52 (w51.heap.size + 1) 36 #[.bool sh10, .slice ah10 nh10 ch10, .slice Ah10 Nh10 Ch10] := by rw [hW]; exact (Bx.new0 _ _ _)
          replace hs := hs.trans hbw
          replace hr := rowsJ IC.kept _ _ _ hr (hG.below0 (Nat.le_refl _))
          replace OUT := outJ _ _ _ OUT (hG.below0 (Nat.le_refl _))
          replace FAM := famJ _ _ _ FAM (hG.below0 (Nat.le_refl _))
          replace Blk := hG.bx Blk notMem0
          replace h6 := h6.keep hk
          replace h9 := h9.keep hk
          replace h10 := h10.keep hk
          clear hW hG hk hbw
          have hz_w52 : w51.heap.size + 1 < w52.heap.size := Blsome.lt
          have HPL := Lib.hid (show (pR R R.length).length ≤ 20 from Nat.le_trans (pR_len R R.length) (by omega))
          have HPB := Lib.hid (pR_bd HRB.out R.length)
          go_loopw [18] (fun s18 wq => ∃ s : Nat, s ≤ most + 1 ∧ s18 = .int .i64 s ∧ Below w.heap.size w wq ∧ Bx wq (w.heap.size) 36 #[.bool false, .slice none 0 0, .slice none 0 0] ∧ RV wq (.agg #[.bool sh6, .slice ah6 nh6 ch6, .slice Ah6 Nh6 Ch6]) (1) ∧ Rows 1 3 IC wq (.slice (some ⟨bhr, ohr, none⟩) R.length khr) R ∧ OutX 47 wq O bs (m + 1) (most + 1) (m + 1) ∧ Fam m bs (FU (pR R R.length) most) (m + 1) wq ∧ BoxR wq (w51.heap.size) (((alS (pR R R.length) m (fun _ => true) s : Int) : Rat)) ∧ BoxR wq (w51.heap.size + 1) (((alS (pR R R.length) m (farB M F) s : Int) : Rat))) (fun s18 _ => most + 1 - (intOf s18).toNat)
          case atStart => exact ⟨0, Nat.zero_le _, rfl, hs, Blk, h6, hr, OUT, FAM, ⟨_, _, _, _, _, _, _, Blall, (h9.of_eq (by rfl))⟩, ⟨_, _, _, _, _, _, _, Blsome, (h10.of_eq (by rfl))⟩⟩
          case round =>
            clear Blk Blall Blsome h6 h9 h10 hr OUT FAM hs
            obtain ⟨s, k_le, rfl, hs, Blk, h6, hr, OUT, FAM, ⟨sh11, ah11, nh11, ch11, Ah11, Nh11, Ch11, Blall, h11⟩, ⟨sh12, ah12, nh12, ch12, Ah12, Nh12, Ch12, Blsome, h12⟩⟩ := hrel
            by_cases q13 : s ≤ most
            · have q13d : ((s : Int) ≤ (most : Int)) = True := eq_true (by omega)
              go_upto_region 27 with fail
              have BI14a : m < (m + 1) := by omega
              have BI14b : ((m : Int) : Int) < ((m + 1) : Int) := by omega
              have Eo15 := OUT.at m (by omega) (by omega)
              have BI16a : s < (most + 1) := by omega
              have BI16b : ((s : Int) : Int) < ((most + 1) : Int) := by omega
              obtain ⟨ge17, ae17, ne17, ce17, Ae17, Ne17, De17, Ee170, Ee171, Ee172, he17, le17⟩ := vecR_at (FAM.atN (j := m) (by omega) (by omega)) (show s < (wyL (pR R R.length) m most).length by rw [wyL_len]; omega)
              rw [wyL_at (by omega)] at he17
              refine U_region (S := fun w' => w'.cell? ⟨w51.heap.size, 0, none⟩ = some (.bool sh11) ∧ w'.cell? ⟨w51.heap.size, 1, none⟩ = some (.slice ah11 nh11 ch11) ∧ w'.cell? ⟨w51.heap.size, 2, none⟩ = some (.slice Ah11 Nh11 Ch11) ∧ w'.cell? ⟨O, m, none⟩ = some (.slice (some ⟨bs m, 0, none⟩) (most + 1) (most + 1)) ∧ w'.cell? ⟨bs m, s * 3, none⟩ = some (.bool ge17) ∧ w'.cell? ⟨bs m, s * 3 + 1, none⟩ = some (.slice ae17 ne17 ce17) ∧ w'.cell? ⟨bs m, s * 3 + 2, none⟩ = some (.slice Ae17 Ne17 De17)) (by kernel_rfl) 9 ?_
              refine AnyU.abs ?_
              intro w73 hW
              have hb : Below wr.heap.size wr w73 := by rw [hW]; exact bDrew _
              replace hs := bStep hs hb
              replace Blk := Blk.mono hb
              replace Blall := Blall.mono hb
              replace Blsome := Blsome.mono hb
              replace h6 := h6.mono hb
              replace h11 := h11.mono hb
              replace h12 := h12.mono hb
              replace he17 := he17.mono hb
              replace hr := rowsJ IC.kept _ _ _ hr hb
              replace OUT := outJ _ _ _ OUT hb
              replace FAM := famJ _ _ _ FAM hb
              replace Eo15 := cellK Eo15 hb
              replace Ee170 := cellK Ee170 hb
              replace Ee171 := cellK Ee171 hb
              replace Ee172 := cellK Ee172 hb
              clear hb hW
              have call_0 : w73.cell? ⟨w51.heap.size, 0, none⟩ = some (.bool sh11) := Blall.at 0 rfl
              have call_1 : w73.cell? ⟨w51.heap.size, 1, none⟩ = some (.slice ah11 nh11 ch11) := Blall.at 1 rfl
              have call_2 : w73.cell? ⟨w51.heap.size, 2, none⟩ = some (.slice Ah11 Nh11 Ch11) := Blall.at 2 rfl
              have hH := (show w73.cell? ⟨w51.heap.size, 0, none⟩ = some (.bool sh11) ∧ w73.cell? ⟨w51.heap.size, 1, none⟩ = some (.slice ah11 nh11 ch11) ∧ w73.cell? ⟨w51.heap.size, 2, none⟩ = some (.slice Ah11 Nh11 Ch11) ∧ w73.cell? ⟨O, m, none⟩ = some (.slice (some ⟨bs m, 0, none⟩) (most + 1) (most + 1)) ∧ w73.cell? ⟨bs m, s * 3, none⟩ = some (.bool ge17) ∧ w73.cell? ⟨bs m, s * 3 + 1, none⟩ = some (.slice ae17 ne17 ce17) ∧ w73.cell? ⟨bs m, s * 3 + 2, none⟩ = some (.slice Ae17 Ne17 De17) from ⟨call_0, call_1, call_2, Eo15, Ee170, Ee171, Ee172⟩)
              refine U_tt 0 ?_ ?_ hH ?_
              rotate_left
              · (intro w hSw; (try dsimp only at hSw); go_simp; try with_reducible rfl)
              try simp only [LY]
              refine U_tt 1 ?_ ?_ hH ?_
              rotate_left
              · (intro w hSw; (try dsimp only at hSw); go_simp; try with_reducible rfl)
              try simp only [LY]
              refine U_tt 2 ?_ ?_ hH ?_
              rotate_left
              · (intro w hSw; (try dsimp only at hSw); go_simp; try with_reducible rfl)
              try simp only [LY]
              refine U_tt 3 ?_ ?_ hH ?_
              rotate_left
              · (intro w hSw; (try dsimp only at hSw); go_simp; try with_reducible rfl)
              try simp only [LY]
              refine U_tt 4 ?_ ?_ hH ?_
              rotate_left
              · (intro w hSw; (try dsimp only at hSw); go_simp; try with_reducible rfl)
              try simp only [LY]
              refine U_tt 5 ?_ ?_ hH ?_
              rotate_left
              · (intro w hSw; (try dsimp only at hSw); go_simp; try with_reducible rfl)
              try simp only [LY]
              refine U_tt 6 ?_ ?_ hH ?_
              rotate_left
              · (intro w hSw; (try dsimp only at hSw); go_simp; try with_reducible rfl)
              try simp only [LY]
              refine U_tt 7 ?_ ?_ hH ?_
              rotate_left
              · (intro w hSw; (try dsimp only at hSw); go_simp; try with_reducible rfl)
              try simp only [LY]
              clear hH
              refine U_one (i := 8) (by kernel_rfl) rfl (fun K hK => ?_)
              go_simp
              (with_reducible refine (rAdd h11 he17 (SzQ.fit (alS_sz HPL.out HPB.out _ _ _)) (SzQ.fit (cnt_sz HPL.out _ _))).mono ?_)
              rintro e w74 ⟨_, rfl, h18, hb⟩
              obtain ⟨sh18, ah18, nh18, ch18, Ah18, Nh18, Ch18, rfl⟩ := h18.shape
              replace hs := bStep hs hb
              replace Blk := Blk.mono hb
              replace Blall := Blall.mono hb
              replace Blsome := Blsome.mono hb
              replace h6 := h6.mono hb
              replace h11 := h11.mono hb
              replace h12 := h12.mono hb
              replace he17 := he17.mono hb
              replace hr := rowsJ IC.kept _ _ _ hr hb
              replace OUT := outJ _ _ _ OUT hb
              replace FAM := famJ _ _ _ FAM hb
              replace call_0 := cellK call_0 hb
              replace call_1 := cellK call_1 hb
              replace call_2 := cellK call_2 hb
              replace Eo15 := cellK Eo15 hb
              replace Ee170 := cellK Ee170 hb
              replace Ee171 := cellK Ee171 hb
              replace Ee172 := cellK Ee172 hb
              clear hb
              try go_wp2_with fail
              refine hK.out _ _ ⟨call_0, call_1, call_2, Eo15, Ee170, Ee171, Ee172⟩ (fun hH => ?_)
              clear hK K
              try simp only [LY]
              clear hH
              have call_0 : w74.cell? ⟨w51.heap.size, 0, none⟩ = some (.bool sh11) := Blall.at 0 rfl
              have call_1 : w74.cell? ⟨w51.heap.size, 1, none⟩ = some (.slice ah11 nh11 ch11) := Blall.at 1 rfl
              have call_2 : w74.cell? ⟨w51.heap.size, 2, none⟩ = some (.slice Ah11 Nh11 Ch11) := Blall.at 2 rfl
              have fall := Blall.free
              have Lall : w51.heap.size < w74.heap.size := Blall.lt
              refine U_last (by kernel_rfl) rfl (by kernel_rfl) (fun K hK => ?_)
              go_simp
              refine hK.out _ _ ?_
              clear hK K
              intro w75 hW
              have hG : Gr [w51.heap.size] w74 w75 := by rw [hW]; exact (Gr.refl _ _).set.set.set
              have hsz := hs.size
              have lall := Blall.lt
              have hbw : Below w.heap.size w74 w75 := hG.below1 hs.size (by first | omega | assumption)
              have hk : KeepD w74 w75 := hG.keep ⟨⟨_, Blall.ty, by decide⟩, True.intro⟩
              have Bl1all : Bx w75 (w51.heap.size) 36 #[.bool sh18, .slice ah18 nh18 ch18, .slice Ah18 Nh18 Ch18] := by rw [hW]; exact Blall.set3
              replace hs := hs.trans hbw
              replace hr := hr.onlyT IC.kept (hG.onlyT (by intro g hg; simp only [List.mem_cons, List.mem_nil_iff, or_false] at hg; rcases hg with rfl <;> first | exact Blall.ty)) (by decide) (by decide)
              replace OUT := OUT.gr hG (notMem1 (by omega))
              replace FAM := FAM.gr hG (fun j hj hn => notMem1 (by have := bsLe HBM.out hj; omega)) hk
              replace Blk := hG.bx Blk (notMem1 (by omega))
              replace Blsome := hG.bx Blsome (notMem1 (by omega))
              replace Blall := Bl1all
              clear Bl1all
              replace h6 := h6.keep hk
              replace h11 := h11.keep hk
              replace h12 := h12.keep hk
              replace he17 := he17.keep hk
              replace h18 := h18.keep hk
              clear hW hG hk hbw hsz lall
              try simp only [LY]
              clear call_0 call_1 call_2 Eo15 Ee170 Ee171 Ee172
              go_wp2_with fail
              obtain ⟨d19, Hd19⟩ : ∃ z : Int, max ((s : Int) - M) (-((s : Int) - M)) = z := ⟨_, rfl⟩
              replace Hd19 := Lib.hid Hd19
              with_reducible refine (r8_distance _ (by omega) (by omega) Hd19.out).mono ?_
              rintro e w76 ⟨rfl, hb⟩
              replace hs := bStep hs hb
              replace Blk := Blk.mono hb
              replace Blall := Blall.mono hb
              replace Blsome := Blsome.mono hb
              replace h6 := h6.mono hb
              replace h11 := h11.mono hb
              replace h12 := h12.mono hb
              replace he17 := he17.mono hb
              replace h18 := h18.mono hb
              replace hr := rowsJ IC.kept _ _ _ hr hb
              replace OUT := outJ _ _ _ OUT hb
              replace FAM := famJ _ _ _ FAM hb
              clear hb
              by_cases q20 : F ≤ d19
              · have q20d : (F ≤ d19) = True := eq_true (by omega)
                go_upto_region 29 with fail
                have BI21a : m < (m + 1) := by omega
                have BI21b : ((m : Int) : Int) < ((m + 1) : Int) := by omega
                have Eo22 := OUT.at m (by omega) (by omega)
                have BI23a : s < (most + 1) := by omega
                have BI23b : ((s : Int) : Int) < ((most + 1) : Int) := by omega
                obtain ⟨ge24, ae24, ne24, ce24, Ae24, Ne24, De24, Ee240, Ee241, Ee242, he24, le24⟩ := vecR_at (FAM.atN (j := m) (by omega) (by omega)) (show s < (wyL (pR R R.length) m most).length by rw [wyL_len]; omega)
                rw [wyL_at (by omega)] at he24
                refine U_region (S := fun w' => w'.cell? ⟨w51.heap.size + 1, 0, none⟩ = some (.bool sh12) ∧ w'.cell? ⟨w51.heap.size + 1, 1, none⟩ = some (.slice ah12 nh12 ch12) ∧ w'.cell? ⟨w51.heap.size + 1, 2, none⟩ = some (.slice Ah12 Nh12 Ch12) ∧ w'.cell? ⟨O, m, none⟩ = some (.slice (some ⟨bs m, 0, none⟩) (most + 1) (most + 1)) ∧ w'.cell? ⟨bs m, s * 3, none⟩ = some (.bool ge24) ∧ w'.cell? ⟨bs m, s * 3 + 1, none⟩ = some (.slice ae24 ne24 ce24) ∧ w'.cell? ⟨bs m, s * 3 + 2, none⟩ = some (.slice Ae24 Ne24 De24)) (by kernel_rfl) 9 ?_
                refine AnyU.abs ?_
                intro w77 hW
                have hb : Below w76.heap.size w76 w77 := by rw [hW]; exact bDrew _
                replace hs := bStep hs hb
                replace Blk := Blk.mono hb
                replace Blall := Blall.mono hb
                replace Blsome := Blsome.mono hb
                replace h6 := h6.mono hb
                replace h11 := h11.mono hb
                replace h12 := h12.mono hb
                replace he17 := he17.mono hb
                replace h18 := h18.mono hb
                replace he24 := he24.mono hb
                replace hr := rowsJ IC.kept _ _ _ hr hb
                replace OUT := outJ _ _ _ OUT hb
                replace FAM := famJ _ _ _ FAM hb
                replace Eo22 := cellK Eo22 hb
                replace Ee240 := cellK Ee240 hb
                replace Ee241 := cellK Ee241 hb
                replace Ee242 := cellK Ee242 hb
                clear hb hW
                have csome_0 : w77.cell? ⟨w51.heap.size + 1, 0, none⟩ = some (.bool sh12) := Blsome.at 0 rfl
                have csome_1 : w77.cell? ⟨w51.heap.size + 1, 1, none⟩ = some (.slice ah12 nh12 ch12) := Blsome.at 1 rfl
                have csome_2 : w77.cell? ⟨w51.heap.size + 1, 2, none⟩ = some (.slice Ah12 Nh12 Ch12) := Blsome.at 2 rfl
                have hH := (show w77.cell? ⟨w51.heap.size + 1, 0, none⟩ = some (.bool sh12) ∧ w77.cell? ⟨w51.heap.size + 1, 1, none⟩ = some (.slice ah12 nh12 ch12) ∧ w77.cell? ⟨w51.heap.size + 1, 2, none⟩ = some (.slice Ah12 Nh12 Ch12) ∧ w77.cell? ⟨O, m, none⟩ = some (.slice (some ⟨bs m, 0, none⟩) (most + 1) (most + 1)) ∧ w77.cell? ⟨bs m, s * 3, none⟩ = some (.bool ge24) ∧ w77.cell? ⟨bs m, s * 3 + 1, none⟩ = some (.slice ae24 ne24 ce24) ∧ w77.cell? ⟨bs m, s * 3 + 2, none⟩ = some (.slice Ae24 Ne24 De24) from ⟨csome_0, csome_1, csome_2, Eo22, Ee240, Ee241, Ee242⟩)
                refine U_tt 0 ?_ ?_ hH ?_
                rotate_left
                · (intro w hSw; (try dsimp only at hSw); go_simp; try with_reducible rfl)
                try simp only [LY]
                refine U_tt 1 ?_ ?_ hH ?_
                rotate_left
                · (intro w hSw; (try dsimp only at hSw); go_simp; try with_reducible rfl)
                try simp only [LY]
                refine U_tt 2 ?_ ?_ hH ?_
                rotate_left
                · (intro w hSw; (try dsimp only at hSw); go_simp; try with_reducible rfl)
                try simp only [LY]
                refine U_tt 3 ?_ ?_ hH ?_
                rotate_left
                · (intro w hSw; (try dsimp only at hSw); go_simp; try with_reducible rfl)
                try simp only [LY]
                refine U_tt 4 ?_ ?_ hH ?_
                rotate_left
                · (intro w hSw; (try dsimp only at hSw); go_simp; try with_reducible rfl)
                try simp only [LY]
                refine U_tt 5 ?_ ?_ hH ?_
                rotate_left
                · (intro w hSw; (try dsimp only at hSw); go_simp; try with_reducible rfl)
                try simp only [LY]
                refine U_tt 6 ?_ ?_ hH ?_
                rotate_left
                · (intro w hSw; (try dsimp only at hSw); go_simp; try with_reducible rfl)
                try simp only [LY]
                refine U_tt 7 ?_ ?_ hH ?_
                rotate_left
                · (intro w hSw; (try dsimp only at hSw); go_simp; try with_reducible rfl)
                try simp only [LY]
                clear hH
                refine U_one (i := 8) (by kernel_rfl) rfl (fun K hK => ?_)
                go_simp
                (with_reducible refine (rAdd h12 he24 (SzQ.fit (alS_sz HPL.out HPB.out _ _ _)) (SzQ.fit (cnt_sz HPL.out _ _))).mono ?_)
                rintro e w78 ⟨_, rfl, h25, hb⟩
                obtain ⟨sh25, ah25, nh25, ch25, Ah25, Nh25, Ch25, rfl⟩ := h25.shape
                replace hs := bStep hs hb
                replace Blk := Blk.mono hb
                replace Blall := Blall.mono hb
                replace Blsome := Blsome.mono hb
                replace h6 := h6.mono hb
                replace h11 := h11.mono hb
                replace h12 := h12.mono hb
                replace he17 := he17.mono hb
                replace h18 := h18.mono hb
                replace he24 := he24.mono hb
                replace hr := rowsJ IC.kept _ _ _ hr hb
                replace OUT := outJ _ _ _ OUT hb
                replace FAM := famJ _ _ _ FAM hb
                replace csome_0 := cellK csome_0 hb
                replace csome_1 := cellK csome_1 hb
                replace csome_2 := cellK csome_2 hb
                replace Eo22 := cellK Eo22 hb
                replace Ee240 := cellK Ee240 hb
                replace Ee241 := cellK Ee241 hb
                replace Ee242 := cellK Ee242 hb
                clear hb
                try go_wp2_with fail
                refine hK.out _ _ ⟨csome_0, csome_1, csome_2, Eo22, Ee240, Ee241, Ee242⟩ (fun hH => ?_)
                clear hK K
                try simp only [LY]
                clear hH
                have csome_0 : w78.cell? ⟨w51.heap.size + 1, 0, none⟩ = some (.bool sh12) := Blsome.at 0 rfl
                have csome_1 : w78.cell? ⟨w51.heap.size + 1, 1, none⟩ = some (.slice ah12 nh12 ch12) := Blsome.at 1 rfl
                have csome_2 : w78.cell? ⟨w51.heap.size + 1, 2, none⟩ = some (.slice Ah12 Nh12 Ch12) := Blsome.at 2 rfl
                have fsome := Blsome.free
                have Lsome : w51.heap.size + 1 < w78.heap.size := Blsome.lt
                refine U_last (by kernel_rfl) rfl (by kernel_rfl) (fun K hK => ?_)
                go_simp
                refine hK.out _ _ ?_
                clear hK K
                intro w79 hW
                have hG : Gr [w51.heap.size + 1] w78 w79 := by rw [hW]; exact (Gr.refl _ _).set.set.set
                have hsz := hs.size
                have lsome := Blsome.lt
                have hbw : Below w.heap.size w78 w79 := hG.below1 hs.size (by first | omega | assumption)
                have hk : KeepD w78 w79 := hG.keep ⟨⟨_, Blsome.ty, by decide⟩, True.intro⟩
                have Bl1some : Bx w79 (w51.heap.size + 1) 36 #[.bool sh25, .slice ah25 nh25 ch25, .slice Ah25 Nh25 Ch25] := by rw [hW]; exact Blsome.set3
                replace hs := hs.trans hbw
                replace hr := hr.onlyT IC.kept (hG.onlyT (by intro g hg; simp only [List.mem_cons, List.mem_nil_iff, or_false] at hg; rcases hg with rfl <;> first | exact Blsome.ty)) (by decide) (by decide)
                replace OUT := OUT.gr hG (notMem1 (by omega))
                replace FAM := FAM.gr hG (fun j hj hn => notMem1 (by have := bsLe HBM.out hj; omega)) hk
                replace Blk := hG.bx Blk (notMem1 (by omega))
                replace Blall := hG.bx Blall (notMem1 (by omega))
                replace Blsome := Bl1some
                clear Bl1some
                replace h6 := h6.keep hk
                replace h11 := h11.keep hk
                replace h12 := h12.keep hk
                replace he17 := he17.keep hk
                replace h18 := h18.keep hk
                replace he24 := he24.keep hk
                replace h25 := h25.keep hk
                clear hW hG hk hbw hsz lsome
                try simp only [LY]
                clear csome_0 csome_1 csome_2 Eo22 Ee240 Ee241 Ee242
                go_wp2
                go_roundw
                case rel => exact ⟨s + 1, by omega, by go_num, hs, Blk, h6, hr, OUT, FAM, ⟨_, _, _, _, _, _, _, Blall, (h18.of_eq (alS_all1 _ _ _))⟩, ⟨_, _, _, _, _, _, _, Blsome, (h25.of_eq (alS_some1 Hd19.out (by omega)))⟩⟩
                all_goals first | (simp [intOf]; done) | (simp [intOf]; omega)
              · have q20d : (F ≤ d19) = False := eq_false (by omega)
                go_wp2
                go_roundw
                case rel => exact ⟨s + 1, by omega, by go_num, hs, Blk, h6, hr, OUT, FAM, ⟨_, _, _, _, _, _, _, Blall, (h18.of_eq (alS_all1 _ _ _))⟩, ⟨_, _, _, _, _, _, _, Blsome, (h12.of_eq (alS_some0 Hd19.out (by omega)))⟩⟩
                all_goals first | (simp [intOf]; done) | (simp [intOf]; omega)
            · have q13d : ((s : Int) ≤ (most : Int)) = False := eq_false (by omega)
              obtain rfl : s = most + 1 := by omega
              obtain ⟨HO1, HO2⟩ := al_out HRR.out HRB.out HM.out HT.out (by omega) HF.out HMO.out.symm
              replace HO1 := Lib.hid HO1
              replace HO2 := Lib.hid HO2
              clear OUT FAM hr
              have csome_0 : wr.cell? ⟨w51.heap.size + 1, 0, none⟩ = some (.bool sh12) := Blsome.at 0 rfl
              have csome_1 : wr.cell? ⟨w51.heap.size + 1, 1, none⟩ = some (.slice ah12 nh12 ch12) := Blsome.at 1 rfl
              have csome_2 : wr.cell? ⟨w51.heap.size + 1, 2, none⟩ = some (.slice Ah12 Nh12 Ch12) := Blsome.at 2 rfl
              have Lsome : w51.heap.size + 1 < wr.heap.size := Blsome.lt
              have call_0 : wr.cell? ⟨w51.heap.size, 0, none⟩ = some (.bool sh11) := Blall.at 0 rfl
              have call_1 : wr.cell? ⟨w51.heap.size, 1, none⟩ = some (.slice ah11 nh11 ch11) := Blall.at 1 rfl
              have call_2 : wr.cell? ⟨w51.heap.size, 2, none⟩ = some (.slice Ah11 Nh11 Ch11) := Blall.at 2 rfl
              have Lall : w51.heap.size < wr.heap.size := Blall.lt
              go_wp2_with fail
              clear csome_0 csome_1 csome_2 call_0 call_1 call_2 Lsome Lall
              with_reducible refine (rDiv h12 h11 (SzQ.fit (alS_sz HPL.out HPB.out _ _ _)) (SzQ.fit (alS_sz HPL.out HPB.out _ _ _)) HO2.out).mono ?_
              rintro e w73 ⟨_, rfl, h14, hb⟩
              obtain ⟨sh14, ah14, nh14, ch14, Ah14, Nh14, Ch14, rfl⟩ := h14.shape
              replace hs := bStep hs hb
              replace Blk := Blk.mono hb
              replace Blall := Blall.mono hb
              replace Blsome := Blsome.mono hb
              replace h6 := h6.mono hb
              replace h11 := h11.mono hb
              replace h12 := h12.mono hb
              clear hb
              go_upto_region 31 with fail
              refine Code.abs ?_
              intro w74 hW
              have hG : Gr [] w73 w74 := by rw [hW]; exact (Gr.refl _ _).alloc
              have hbw : Below w.heap.size w73 w74 := hG.below0 hs.size
              have hk : KeepD w73 w74 := hG.keep True.intro
              have sz_w74 : w.heap.size ≤ w73.heap.size := hs.size
              have nk_w74 : w.heap.size < w73.heap.size := Blk.lt
              have nall_w74 : w51.heap.size < w73.heap.size := Blall.lt
              have nsome_w74 : w51.heap.size + 1 < w73.heap.size := Blsome.lt
              have Blx : Bx w74 (w73.heap.size) 36 #[.bool sh14, .slice ah14 nh14 ch14, .slice Ah14 Nh14 Ch14] := by rw [hW]; exact (Bx.new0 _ _ _)
              replace hs := hs.trans hbw
              replace Blk := hG.bx Blk notMem0
              replace Blall := hG.bx Blall notMem0
              replace Blsome := hG.bx Blsome notMem0
              replace h6 := h6.keep hk
              replace h11 := h11.keep hk
              replace h12 := h12.keep hk
              replace h14 := h14.keep hk
              clear hW hG hk hbw
              have hz_w74 : w73.heap.size < w74.heap.size := Blx.lt
              have cx_0 : w74.cell? ⟨w73.heap.size, 0, none⟩ = some (.bool sh14) := Blx.at 0 rfl
              have cx_1 : w74.cell? ⟨w73.heap.size, 1, none⟩ = some (.slice ah14 nh14 ch14) := Blx.at 1 rfl
              have cx_2 : w74.cell? ⟨w73.heap.size, 2, none⟩ = some (.slice Ah14 Nh14 Ch14) := Blx.at 2 rfl
              have Lx : w73.heap.size < w74.heap.size := Blx.lt
              have ck_0 : w74.cell? ⟨w.heap.size, 0, none⟩ = some (.bool false) := Blk.at 0 rfl
              have ck_1 : w74.cell? ⟨w.heap.size, 1, none⟩ = some (.slice none 0 0) := Blk.at 1 rfl
              have ck_2 : w74.cell? ⟨w.heap.size, 2, none⟩ = some (.slice none 0 0) := Blk.at 2 rfl
              have fk := Blk.free
              have Lk : w.heap.size < w74.heap.size := Blk.lt
              go_wp2
              clear cx_0 cx_1 cx_2 ck_0 ck_1 ck_2 fk Lx Lk
              refine bodyPost.abs ?_
              intro w75 hW
              have hG : Gr [w.heap.size] w74 w75 := by rw [hW]; exact (Gr.refl _ _).set.set.set
              have hsz := hs.size
              have lk := Blk.lt
              have hbw : Below w.heap.size w74 w75 := hG.below1 hs.size (by first | omega | assumption)
              have hk : KeepD w74 w75 := hG.keep ⟨⟨_, Blk.ty, by decide⟩, True.intro⟩
              have Bl1k : Bx w75 (w.heap.size) 36 #[.bool sh14, .slice ah14 nh14 ch14, .slice Ah14 Nh14 Ch14] := by rw [hW]; exact Blk.set3
              replace hs := hs.trans hbw
              replace Blall := hG.bx Blall (notMem1 (by omega))
              replace Blsome := hG.bx Blsome (notMem1 (by omega))
              replace Blx := hG.bx Blx (notMem1 (by omega))
              replace Blk := Bl1k
              clear Bl1k
              replace h6 := h6.keep hk
              replace h11 := h11.keep hk
              replace h12 := h12.keep hk
              replace h14 := h14.keep hk
              clear hW hG hk hbw hsz lk
              have ck_0 : w75.cell? ⟨w.heap.size, 0, none⟩ = some (.bool sh14) := Blk.at 0 rfl
              have ck_1 : w75.cell? ⟨w.heap.size, 1, none⟩ = some (.slice ah14 nh14 ch14) := Blk.at 1 rfl
              have ck_2 : w75.cell? ⟨w.heap.size, 2, none⟩ = some (.slice Ah14 Nh14 Ch14) := Blk.at 2 rfl
              exact bodyPost_ret (v := .agg #[.bool sh14, .slice ah14 nh14 ch14, .slice Ah14 Nh14 Ch14]) (by simp [results, Tryz.results86, go_sem, ck_0, ck_1, ck_2]) rfl ⟨_, rfl, h14.of_eq (HO1.out.trans HQ.out), hs⟩

end Go.Proofs.YtmnipggjjcmjkaaGreat
