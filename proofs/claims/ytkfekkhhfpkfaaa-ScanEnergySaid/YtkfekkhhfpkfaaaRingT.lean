/-
  Law 07: are all numbers tiny? The sum of squares.
-/
import Derived.Test.YtkfekkhhfpkfaaaPkLaw
import Derived.Test.YtkfekkhhfpkfaaaRing1
import Derived.Test.YtkfekkhhfpkfaaaOwn2
import Derived.Test.YtkfekkhhfpkfaaaPkHeld3
set_option linter.unusedSimpArgs false
set_option linter.unusedVariables false
namespace Go.Proofs.Ytkfekkhhfpkfaaa
open Go.RowKit Dg
attribute [local go_sem ↓] Go.wp_at_zero Go.wp_at_succ

/-- At most 8 bits above and below. -/
def tinyF (x : Int × Int) : Bool := !(decide (256 < x.1) || (decide (x.1 < -256) || decide (256 < x.2)))
set_option maxRecDepth 100000 in
set_option maxHeartbeats 4000000 in
theorem l7_tiny (v : Value) (l : List (Int × Int)) (w : World) (hl : RowsI 2 FC w v l) : Calls Try.prog 4 #[v] w (RetV w (.bool (l.all tinyF))) := by
  obtain ⟨ao, cap, rfl, hc1, hc2, hc3⟩ := hl.slice
  have hs := Below.refl w.heap.size w
  have HL := Lib.hid hl
  clear hl
  go_enter Try.func4, Try.ntmps4
  go_wp2
  go_loopw [7] (fun iv wr => ∃ k : Nat, k ≤ l.length ∧ iv = .int .i64 k ∧ (l.take k).all tinyF = true ∧ Below w.heap.size w wr) (fun iv _ => l.length - (intOf iv).toNat)
  case atStart => exact ⟨0, Nat.zero_le _, rfl, rfl, hs⟩
  case round =>
    obtain ⟨k, hk, rfl, hp, hs⟩ := hrel
    have HP := Lib.hid hp
    clear hp
    by_cases hlt : k < l.length
    · obtain ⟨⟨n, d⟩, hx⟩ : ∃ x, l[k]? = some x := ⟨_, List.getElem?_eq_getElem hlt⟩
      obtain ⟨b, o, c, cs, hv, hlen, hat, rfl⟩ := (HL.out.mono FC.kept hs).get hx
      obtain ⟨rfl, rfl⟩ := sliceE hv
      have e0 := hat 0 _ rfl
      have e1 := hat 1 _ rfl
      clear hat
      simp only [Nat.add_zero] at e0
      have HT := Lib.hid (allF_take tinyF l k (n, d) hx HP.out)
      clear hx hv hlen
      dsimp only at e0 e1
      go_upto_region 4 with fail
      clear e0 e1
      refine Code.abs ?_
      intro w1 hW
      have hsz := hs.size
      have hbw : Below w.heap.size wr w1 := by rw [hW]; exact (Below.alloc (Below.refl w.heap.size wr) (by first | exact hs.size | (have := hs.size; simp; done) | (have := hs.size; simp; omega)) _)
      have hs1 : Below w.heap.size w w1 := hs.trans hbw
      have hk : KeepD wr w1 := by rw [hW]; exact ((KeepD.refl _).alloc _)
      have Bl1x : Bx w1 (wr.heap.size) 53 #[.int .i64 n, .int .i64 d] := by rw [hW]; exact (Bx.new' _ _ _ _ (by first | rfl | (simp; done)))
      replace hs := hs1
      clear hs1
      have Blx := Bl1x
      clear Bl1x
      clear hW hk hsz hbw
      have hz_w1 : wr.heap.size < w1.heap.size := Blx.lt
      have cx_0 : w1.cell? ⟨wr.heap.size, 0, none⟩ = some (.int .i64 n) := Blx.at 0 rfl
      have cx_1 : w1.cell? ⟨wr.heap.size, 1, none⟩ = some (.int .i64 d) := Blx.at 1 rfl
      by_cases q1 : 256 < n
      · go_wp2
        go_ret
        have HF := HT.out
        rw [show tinyF (n, d) = false by unfold tinyF; simp only; simp [q1]] at HF
        have := allF_false _ l (k + 1) HF
        exact ⟨by rw [this]; rfl, hs⟩
      · by_cases q2 : n < -256
        · go_wp2
          go_ret
          have HF := HT.out
          rw [show tinyF (n, d) = false by unfold tinyF; simp only; simp [q2]] at HF
          have := allF_false _ l (k + 1) HF
          exact ⟨by rw [this]; rfl, hs⟩
        · by_cases q3 : 256 < d
          · go_wp2
            go_ret
            have HF := HT.out
            rw [show tinyF (n, d) = false by unfold tinyF; simp only; simp [q3]] at HF
            have := allF_false _ l (k + 1) HF
            exact ⟨by rw [this]; rfl, hs⟩
          · have HF := Lib.hid (show (l.take (k + 1)).all tinyF = true by rw [HT.out]; unfold tinyF; simp [q1, q2, q3])
            go_wp2
            go_roundw
            case rel => exact ⟨k + 1, by omega, by go_num, HF.out, hs⟩
            all_goals first | (simp [intOf]; done) | (simp [intOf]; omega)
    · go_wp2
      go_ret
      have hp := HP.out
      rw [List.take_of_length_le (by omega)] at hp
      exact ⟨by rw [hp]; rfl, hs⟩

theorem sq_szQ {A : List Rat} {K : Nat} (h : ∀ i, i < A.length → SzQ K (nthQ A i)) : ∀ k, k ≤ A.length → SzQ (k * (2 * K + 1) + 1) (sqQ A k)
  | 0, _ => szQ_zero.mono (by omega)
  | k + 1, hk => (SzQ.add (sq_szQ h k (by omega)) ((h k (by omega)).mul (h k (by omega)))).mono (by rw [show (k + 1) * (2 * K + 1) = k * (2 * K + 1) + (2 * K + 1) from Nat.succ_mul k _]; generalize k * (2 * K + 1) = m; omega)
set_option maxRecDepth 100000 in
set_option maxHeartbeats 4000000 in
theorem l7_sum {v : Value} {A : List Rat} (w : World) (hl : Rows 3 32 PC w v A) (g1 : 1 ≤ A.length) (g6 : A.length ≤ 6) (hz : ∀ i, i < A.length → SzQ 2200 (nthQ A i)) : Calls Try.prog 10 #[v] w (RetP w (sqQ A A.length)) := by
  obtain ⟨bhl, ohl, khl, rfl, hl1, hl2, -⟩ := hl.open_ (by omega)
  have hs := Below.refl w.heap.size w
  have HZ := Lib.hid hz
  have HQ := Lib.hid (fun k (hk : k ≤ A.length) => (sq_szQ hz k hk).mono (show k * (2 * 2200 + 1) + 1 ≤ 30000 by omega))
  clear hz
  go_enter Try.func10, Try.ntmps10
  go_wp2
  refine Code.abs ?_
  intro w1 hW
  have hG : Gr [] w w1 := by rw [hW]; exact (Gr.refl _ _).alloc.alloc
  have hbw : Below w.heap.size w w1 := hG.below0 hs.size
  have hk : KeepD w w1 := hG.keep True.intro
  have sz_w1 : w.heap.size ≤ w.heap.size := hs.size
  have nhl_w1 : bhl < w.heap.size := hl.lt (by omega)
  have Blk : Bx w1 (w.heap.size) 32 #[.bool false, .slice none 0 0, .slice none 0 0] := by rw [hW]; exact ((Bx.new0 _ _ _).alloc _)
  have Blout : Bx w1 (w.heap.size + 1) 32 #[.bool false, .slice none 0 0, .slice none 0 0] := by rw [hW]; exact (Bx.new0 _ _ _)
  replace hs := hs.trans hbw
  replace hl := rowsJ PC.kept _ _ _ hl (hG.below0 (Nat.le_refl _))
  clear hW hG hk hbw
  have hz_w1 : w.heap.size + 1 < w1.heap.size := Blout.lt
  go_loopw [8] (fun s8 wq => ∃ k : Nat, k ≤ A.length ∧ s8 = .int .i64 k ∧ Below w.heap.size w wq ∧ Bx wq (w.heap.size) 32 #[.bool false, .slice none 0 0, .slice none 0 0] ∧ Rows 3 32 PC wq (.slice (some ⟨bhl, ohl, none⟩) A.length khl) A ∧ BoxP wq (w.heap.size + 1) (sqQ A k)) (fun s8 _ => A.length - (intOf s8).toNat)
  case atStart => exact ⟨0, Nat.zero_le _, rfl, hs, Blk, hl, ⟨_, _, _, _, _, _, _, Blout, (PV.zero _)⟩⟩
  case round =>
    clear Blk Blout hl hs
    obtain ⟨k, k_le, rfl, hs, Blk, hl, ⟨sh1, ah1, nh1, ch1, Ah1, Nh1, Ch1, Blout, h1⟩⟩ := hrel
    by_cases q2 : k < A.length
    · have q2d : ((k : Int) < (A.length : Int)) = True := eq_true (by omega)
      have BI3a : k < A.length := by omega
      have BI3b : ((k : Int) : Int) < (A.length : Int) := by omega
      obtain ⟨ge4a, ae4a, ne4a, ce4a, Ae4a, Ne4a, De4a, Ee40, Ee41, Ee42, he4a, le4⟩ := rowP_at hl (show k < A.length by omega)
      go_upto_region 5 with fail
      clear le4 Ee40 Ee41 Ee42
      refine Code.abs ?_
      intro w22 hW
      have hG : Gr [] wr w22 := by rw [hW]; exact (Gr.refl _ _).alloc
      have hbw : Below w.heap.size wr w22 := hG.below0 hs.size
      have hk : KeepD wr w22 := hG.keep True.intro
      have sz_w22 : w.heap.size ≤ wr.heap.size := hs.size
      have nk_w22 : w.heap.size < wr.heap.size := Blk.lt
      have nout_w22 : w.heap.size + 1 < wr.heap.size := Blout.lt
      have nhl_w22 : bhl < wr.heap.size := hl.lt (by omega)
      have Blx : Bx w22 (wr.heap.size) 32 #[.bool ge4a, .slice ae4a ne4a ce4a, .slice Ae4a Ne4a De4a] := by rw [hW]; exact (Bx.new0 _ _ _)
      replace hs := hs.trans hbw
      replace hl := rowsJ PC.kept _ _ _ hl (hG.below0 (Nat.le_refl _))
      replace Blk := hG.bx Blk notMem0
      replace Blout := hG.bx Blout notMem0
      replace h1 := h1.keep hk
      replace he4a := he4a.keep hk
      clear hW hG hk hbw
      have hz_w22 : wr.heap.size < w22.heap.size := Blx.lt
      refine U_region (S := fun w' => w'.cell? ⟨w.heap.size + 1, 0, none⟩ = some (.bool sh1) ∧ w'.cell? ⟨w.heap.size + 1, 1, none⟩ = some (.slice ah1 nh1 ch1) ∧ w'.cell? ⟨w.heap.size + 1, 2, none⟩ = some (.slice Ah1 Nh1 Ch1) ∧ w'.cell? ⟨wr.heap.size, 0, none⟩ = some (.bool ge4a) ∧ w'.cell? ⟨wr.heap.size, 1, none⟩ = some (.slice ae4a ne4a ce4a) ∧ w'.cell? ⟨wr.heap.size, 2, none⟩ = some (.slice Ae4a Ne4a De4a)) (by kernel_rfl) 5 ?_
      refine AnyU.abs ?_
      intro w23 hW
      have hb : Below w22.heap.size w22 w23 := by rw [hW]; exact bDrew _
      replace hs := bStep hs hb
      replace Blk := Blk.mono hb
      replace Blout := Blout.mono hb
      replace Blx := Blx.mono hb
      replace h1 := h1.mono hb
      replace he4a := he4a.mono hb
      replace hl := rowsJ PC.kept _ _ _ hl hb
      clear hb hW
      have cout_0 : w23.cell? ⟨w.heap.size + 1, 0, none⟩ = some (.bool sh1) := Blout.at 0 rfl
      have cout_1 : w23.cell? ⟨w.heap.size + 1, 1, none⟩ = some (.slice ah1 nh1 ch1) := Blout.at 1 rfl
      have cout_2 : w23.cell? ⟨w.heap.size + 1, 2, none⟩ = some (.slice Ah1 Nh1 Ch1) := Blout.at 2 rfl
      have cx_0 : w23.cell? ⟨wr.heap.size, 0, none⟩ = some (.bool ge4a) := Blx.at 0 rfl
      have cx_1 : w23.cell? ⟨wr.heap.size, 1, none⟩ = some (.slice ae4a ne4a ce4a) := Blx.at 1 rfl
      have cx_2 : w23.cell? ⟨wr.heap.size, 2, none⟩ = some (.slice Ae4a Ne4a De4a) := Blx.at 2 rfl
      have hH := (show w23.cell? ⟨w.heap.size + 1, 0, none⟩ = some (.bool sh1) ∧ w23.cell? ⟨w.heap.size + 1, 1, none⟩ = some (.slice ah1 nh1 ch1) ∧ w23.cell? ⟨w.heap.size + 1, 2, none⟩ = some (.slice Ah1 Nh1 Ch1) ∧ w23.cell? ⟨wr.heap.size, 0, none⟩ = some (.bool ge4a) ∧ w23.cell? ⟨wr.heap.size, 1, none⟩ = some (.slice ae4a ne4a ce4a) ∧ w23.cell? ⟨wr.heap.size, 2, none⟩ = some (.slice Ae4a Ne4a De4a) from ⟨cout_0, cout_1, cout_2, cx_0, cx_1, cx_2⟩)
      refine U_tt 0 ?_ ?_ hH ?_
      rotate_left
      · (intro w hSw; (try dsimp only at hSw); go_simp; try with_reducible rfl)
      try simp only [LY]
      refine U_tt 1 ?_ ?_ hH ?_
      rotate_left
      · (intro w hSw; (try dsimp only at hSw); go_simp; try with_reducible rfl)
      try simp only [LY]
      refine U_tt 2 ?_ ?_ hH ?_
      rotate_left
      · (intro w hSw; (try dsimp only at hSw); go_simp; try with_reducible rfl)
      try simp only [LY]
      clear hH
      refine U_one (i := 3) (by kernel_rfl) rfl (fun K hK => ?_)
      go_simp
      (with_reducible refine (pMul he4a he4a (SzQ.fit (HZ.out k (by omega))) (SzQ.fit (HZ.out k (by omega)))).mono ?_)
      rintro e w24 ⟨_, rfl, h5, hb⟩
      obtain ⟨sh5, ah5, nh5, ch5, Ah5, Nh5, Ch5, rfl⟩ := h5.shape
      replace hs := bStep hs hb
      replace Blk := Blk.mono hb
      replace Blout := Blout.mono hb
      replace Blx := Blx.mono hb
      replace h1 := h1.mono hb
      replace he4a := he4a.mono hb
      replace hl := rowsJ PC.kept _ _ _ hl hb
      replace cout_0 := cellK cout_0 hb
      replace cout_1 := cellK cout_1 hb
      replace cout_2 := cellK cout_2 hb
      replace cx_0 := cellK cx_0 hb
      replace cx_1 := cellK cx_1 hb
      replace cx_2 := cellK cx_2 hb
      clear hb
      try go_wp2_with fail
      refine hK.out _ _ ⟨cout_0, cout_1, cout_2, cx_0, cx_1, cx_2⟩ (fun hH => ?_)
      clear hK K
      try simp only [LY]
      clear hH
      refine U_one (i := 4) (by kernel_rfl) rfl (fun K hK => ?_)
      go_simp
      (with_reducible refine (pAdd h1 h5 (SzQ.fit (HQ.out k (by omega))) (SzQ.fit (SzQ.mul (HZ.out k (by omega)) (HZ.out k (by omega))))).mono ?_)
      rintro e w25 ⟨_, rfl, h6, hb⟩
      obtain ⟨sh6, ah6, nh6, ch6, Ah6, Nh6, Ch6, rfl⟩ := h6.shape
      replace hs := bStep hs hb
      replace Blk := Blk.mono hb
      replace Blout := Blout.mono hb
      replace Blx := Blx.mono hb
      replace h1 := h1.mono hb
      replace he4a := he4a.mono hb
      replace h5 := h5.mono hb
      replace hl := rowsJ PC.kept _ _ _ hl hb
      replace cout_0 := cellK cout_0 hb
      replace cout_1 := cellK cout_1 hb
      replace cout_2 := cellK cout_2 hb
      replace cx_0 := cellK cx_0 hb
      replace cx_1 := cellK cx_1 hb
      replace cx_2 := cellK cx_2 hb
      clear hb
      try go_wp2_with fail
      refine hK.out _ _ ⟨cout_0, cout_1, cout_2, cx_0, cx_1, cx_2⟩ (fun hH => ?_)
      clear hK K
      try simp only [LY]
      clear hH
      have cout_0 : w25.cell? ⟨w.heap.size + 1, 0, none⟩ = some (.bool sh1) := Blout.at 0 rfl
      have cout_1 : w25.cell? ⟨w.heap.size + 1, 1, none⟩ = some (.slice ah1 nh1 ch1) := Blout.at 1 rfl
      have cout_2 : w25.cell? ⟨w.heap.size + 1, 2, none⟩ = some (.slice Ah1 Nh1 Ch1) := Blout.at 2 rfl
      have fout := Blout.free
      have Lout : w.heap.size + 1 < w25.heap.size := Blout.lt
      refine U_last (by kernel_rfl) rfl (by kernel_rfl) (fun K hK => ?_)
      go_simp
      refine hK.out _ _ ?_
      clear hK K
      intro w26 hW
      have hG : Gr [w.heap.size + 1] w25 w26 := by rw [hW]; exact (Gr.refl _ _).set.set.set
      have hsz := hs.size
      have lout := Blout.lt
      have hbw : Below w.heap.size w25 w26 := hG.below1 hs.size (by first | omega | assumption)
      have hk : KeepD w25 w26 := hG.keep ⟨⟨_, Blout.ty, by decide⟩, True.intro⟩
      have Bl1out : Bx w26 (w.heap.size + 1) 32 #[.bool sh6, .slice ah6 nh6 ch6, .slice Ah6 Nh6 Ch6] := by rw [hW]; exact Blout.set3
      replace hs := hs.trans hbw
      replace hl := hl.gr PC.kept hG (notMem1 (by omega)) hk
      replace Blk := hG.bx Blk (notMem1 (by omega))
      replace Blx := hG.bx Blx (notMem1 (by omega))
      replace Blout := Bl1out
      clear Bl1out
      replace h1 := h1.keep hk
      replace he4a := he4a.keep hk
      replace h5 := h5.keep hk
      replace h6 := h6.keep hk
      clear hW hG hk hbw hsz lout
      try simp only [LY]
      clear cout_0 cout_1 cout_2 cx_0 cx_1 cx_2
      go_wp2
      go_roundw
      case rel => exact ⟨k + 1, by omega, by go_num, hs, Blk, hl, ⟨_, _, _, _, _, _, _, Blout, (h6.of_eq (by rfl))⟩⟩
      all_goals first | (simp [intOf]; done) | (simp [intOf]; omega)
    · have q2d : ((k : Int) < (A.length : Int)) = False := eq_false (by omega)
      obtain rfl : k = A.length := by omega
      have cout_0 : wr.cell? ⟨w.heap.size + 1, 0, none⟩ = some (.bool sh1) := Blout.at 0 rfl
      have cout_1 : wr.cell? ⟨w.heap.size + 1, 1, none⟩ = some (.slice ah1 nh1 ch1) := Blout.at 1 rfl
      have cout_2 : wr.cell? ⟨w.heap.size + 1, 2, none⟩ = some (.slice Ah1 Nh1 Ch1) := Blout.at 2 rfl
      have Lout : w.heap.size + 1 < wr.heap.size := Blout.lt
      have ck_0 : wr.cell? ⟨w.heap.size, 0, none⟩ = some (.bool false) := Blk.at 0 rfl
      have ck_1 : wr.cell? ⟨w.heap.size, 1, none⟩ = some (.slice none 0 0) := Blk.at 1 rfl
      have ck_2 : wr.cell? ⟨w.heap.size, 2, none⟩ = some (.slice none 0 0) := Blk.at 2 rfl
      have fk := Blk.free
      have Lk : w.heap.size < wr.heap.size := Blk.lt
      go_wp2
      clear cout_0 cout_1 cout_2 ck_0 ck_1 ck_2 fk Lout Lk
      refine bodyPost.abs ?_
      intro w22 hW
      have hG : Gr [w.heap.size] wr w22 := by rw [hW]; exact (Gr.refl _ _).set.set.set
      have hsz := hs.size
      have lk := Blk.lt
      have hbw : Below w.heap.size wr w22 := hG.below1 hs.size (by first | omega | assumption)
      have hk : KeepD wr w22 := hG.keep ⟨⟨_, Blk.ty, by decide⟩, True.intro⟩
      have Bl1k : Bx w22 (w.heap.size) 32 #[.bool sh1, .slice ah1 nh1 ch1, .slice Ah1 Nh1 Ch1] := by rw [hW]; exact Blk.set3
      replace hs := hs.trans hbw
      replace hl := hl.gr PC.kept hG (notMem1 (by omega)) hk
      replace Blout := hG.bx Blout (notMem1 (by omega))
      replace Blk := Bl1k
      clear Bl1k
      replace h1 := h1.keep hk
      clear hW hG hk hbw hsz lk
      have ck_0 : w22.cell? ⟨w.heap.size, 0, none⟩ = some (.bool sh1) := Blk.at 0 rfl
      have ck_1 : w22.cell? ⟨w.heap.size, 1, none⟩ = some (.slice ah1 nh1 ch1) := Blk.at 1 rfl
      have ck_2 : w22.cell? ⟨w.heap.size, 2, none⟩ = some (.slice Ah1 Nh1 Ch1) := Blk.at 2 rfl
      exact bodyPost_ret (v := .agg #[.bool sh1, .slice ah1 nh1 ch1, .slice Ah1 Nh1 Ch1]) (by simp [results, Try.results10, go_sem, ck_0, ck_1, ck_2]) rfl ⟨_, rfl, h1, hs⟩

end Go.Proofs.Ytkfekkhhfpkfaaa
