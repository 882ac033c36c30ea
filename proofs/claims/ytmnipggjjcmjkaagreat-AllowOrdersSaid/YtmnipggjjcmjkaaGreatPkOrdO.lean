/-
  Mean and variance, the place of the allowable: plain lists. slices.Clone at fractions, by the shelf's contract.
-/
import Derived.Test.YtmnipggjjcmjkaaGreatSortQO
import Derived.Test.YtmnipggjjcmjkaaGreatAlT1O
set_option linter.unusedSimpArgs false
set_option linter.unusedVariables false
namespace Go.Proofs.YtmnipggjjcmjkaaGreat
open Go.RowKit Dg

/-- The sum of the first k numbers. -/
def sumQ (L : List Rat) : Nat → Rat
  | 0 => 0
  | k + 1 => sumQ L k + nthQ L k
theorem sumQ_sz' {L : List Rat} {K : Nat} (hz : ∀ i, i < L.length → SzQ K (nthQ L i)) : ∀ k, k ≤ L.length → SzQ (k * (K + 1) + 1) (sumQ L k)
  | 0, _ => szQ_zero.mono (by omega)
  | k + 1, h => ((sumQ_sz' hz k (by omega)).add (hz k (by omega))).mono (by rw [Nat.add_mul]; omega)
theorem sumQ_sz {L : List Rat} {K : Nat} (hz : ∀ i, i < L.length → SzQ K (nthQ L i)) (h20 : L.length ≤ 20) (k : Nat) (hk : k ≤ L.length) : SzQ (20 * K + 100) (sumQ L k) :=
  (sumQ_sz' hz k hk).mono (by have := Nat.mul_le_mul_right (K + 1) (show k ≤ 20 by omega); omega)
def meanQ (L : List Rat) : Rat := sumQ L L.length / ((L.length : Int) : Rat)
theorem len_ne {L : List Rat} (h1 : 1 ≤ L.length) : ((L.length : Int) : Rat) ≠ 0 := fun e => by
  have : (L.length : Int) = 0 := by exact_mod_cast e
  omega
theorem mean_sz {L : List Rat} {K : Nat} (hz : ∀ i, i < L.length → SzQ K (nthQ L i)) (h1 : 1 ≤ L.length) (h20 : L.length ≤ 20) : SzQ (20 * K + 101) (meanQ L) :=
  ((sumQ_sz hz h20 L.length (Nat.le_refl _)).div (szQ_int (by omega)) (len_ne h1)).mono (by omega)
/-- The squares of the differences. -/
def sqK (L : List Rat) (m : Rat) (k : Nat) : List Rat := (L.take k).map fun x => (x - m) * (x - m)
theorem sqK_len (L : List Rat) (m : Rat) {k : Nat} (h : k ≤ L.length) : (sqK L m k).length = k := by unfold sqK; rw [List.length_map, List.length_take]; omega
theorem sqK_next {L : List Rat} {m : Rat} {k : Nat} (h : k < L.length) : sqK L m (k + 1) = sqK L m k ++ [(nthQ L k - m) * (nthQ L k - m)] := by
  unfold sqK
  rw [List.take_add_one, nthQ_some h, List.map_append]
  rfl
theorem sqK_at {L : List Rat} {m : Rat} {i : Nat} (h : i < L.length) : nthQ (sqK L m L.length) i = (nthQ L i - m) * (nthQ L i - m) := by
  unfold sqK
  rw [List.take_length]
  have : (L.map fun x => (x - m) * (x - m))[i]? = some ((nthQ L i - m) * (nthQ L i - m)) := by rw [List.getElem?_map, nthQ_some h]; rfl
  unfold nthQ at *
  rw [List.getD_eq_getElem?_getD, this]; rfl
theorem sqK_sz {L : List Rat} {K M : Nat} {m : Rat} (hz : ∀ i, i < L.length → SzQ K (nthQ L i)) (sm : SzQ M m) {i : Nat} (h : i < L.length) : SzQ ((K + M + 1) + (K + M + 1)) (nthQ (sqK L m L.length) i) := by
  rw [sqK_at h]
  exact ((hz i h).sub sm).mul ((hz i h).sub sm)
def varQ (L : List Rat) : Rat := meanQ (sqK L (meanQ L) L.length)
theorem al_wholeN {l : Nat} {n : Rat} (hn : ((l : Int) : Rat) = n) (w : World) (h : l ≤ 4294967295) : Calls Tryz.prog 89 #[.int .i64 (l : Int)] w (RetP w n) := hn ▸ al_whole (l : Int) w (by omega) (by omega)
theorem srt_sz {L : List Rat} {K : Nat} (hz : ∀ i, i < L.length → SzQ K (nthQ L i)) {i : Nat} (h : i < (srtQ L).length) : SzQ K (nthQ (srtQ L) i) := by
  have hm := (srtQ_perm L).mem_iff.1 (List.mem_of_getElem? (nthQ_some h))
  obtain ⟨j, hj, e⟩ := List.getElem_of_mem hm
  have h2 := hz j hj
  have h3 := nthQ_some hj
  rw [List.getElem?_eq_getElem hj] at h3
  injection h3 with h3
  rw [← h3, e] at h2
  exact h2
theorem rk_range {L : List Rat} {u c : Rat} {r : Nat} (h1 : 1 ≤ L.length) (h20 : L.length ≤ 64) (hE : rkEr L.length u c = 0) (hr : rkV L.length u c = (r : Int)) : 1 ≤ r ∧ r ≤ L.length := by
  unfold rkEr at hE
  unfold rkV at hr
  by_cases h : rkWrong L.length u c
  · rw [if_pos h] at hE; cases hE
  · rw [if_neg h] at hE hr
    have hle := rkF_le (1 - u) c (L.length : Int).toNat (L.length : Int).toNat
    by_cases h0 : rkF (1 - u) (L.length : Int).toNat c (L.length : Int).toNat = 0
    · rw [h0] at hE; cases hE
    · omega
set_option maxRecDepth 100000 in
/-- slices.Clone at fractions. -/
theorem sl_CloneQ {v : Value} {L : List Rat} (w : World) (hl : Rows 3 29 PC w v L) (h1 : 1 ≤ L.length) (h2 : L.length ≤ 1000) : Calls Tryz.prog 49 #[v] w (Ret1 (fun w' v => OwnR w.heap.size 29 3 PC w' v L) w) := by
  obtain ⟨b, o, c, rfl, _, _, _⟩ := hl.open_ (by omega)
  obtain ⟨i0, hi, hz, hsz, hby⟩ := alP_parts
  obtain ⟨dss, d1, d2, d3, d4, d5⟩ := rows_flat hl
  have hcon := AnyE.slices_Clone Tryz.cloneL i0 _ 3 56 hi hz hsz hby (by kernel_rfl) (by decide) Tryz.sizeOf29 b o L.length c dss.flatten w (by rw [flat_length _ d2, d1]) (by unfold maxLen; omega) (by omega) (fun j u hu => by have := d5 j u hu; rwa [add_plain] at this) d4
  change Calls Tryz.prog 49 _ _ _ at hcon
  refine hcon.mono ?_
  rintro e w' ⟨v', rfl, hown, _, hb⟩
  exact ⟨v', rfl, ⟨dss, d1, d2, fun i cs x hc hx => PC.kept _ _ _ _ (d3 i cs x hc hx) (.of_below hb), hown⟩, hb⟩
end Go.Proofs.YtmnipggjjcmjkaaGreat
/-
  allow: mean, squares, Mean, sorted, Limit.
-/
namespace Go.Proofs.YtmnipggjjcmjkaaGreat
open Go.RowKit Dg
attribute [local go_sem ↓] Go.wp_at_zero Go.wp_at_succ

set_option maxRecDepth 100000 in
set_option maxHeartbeats 4000000 in
theorem al_cvL_few {v : Value} {L : List Rat} (w : World) (hl : Rows 3 29 PC w v L) (h : L.length < 1) : Calls Tryz.prog 100 #[v] w (RetV w (.int .i64 4)) := by
  obtain ⟨ao, cap, rfl, hc1, hc2, hc3⟩ := hl.toI.slice
  clear hl
  have hs := Below.refl w.heap.size w
  go_enter Tryz.func100, Tryz.ntmps100
  have q1 : L.length < 1 := (by omega)
  have q1d : ((L.length : Int) < 1) = True := eq_true (by omega)
  go_wp2
  go_ret
  exact ⟨rfl, hs⟩

set_option maxRecDepth 100000 in
set_option maxHeartbeats 4000000 in
theorem al_cvL_many {v : Value} {L : List Rat} (w : World) (hl : Rows 3 29 PC w v L) (h : 64 < L.length) : Calls Tryz.prog 100 #[v] w (RetV w (.int .i64 4)) := by
  obtain ⟨ao, cap, rfl, hc1, hc2, hc3⟩ := hl.toI.slice
  clear hl
  have hs := Below.refl w.heap.size w
  go_enter Tryz.func100, Tryz.ntmps100
  have q1 : ¬ (L.length < 1) := (by omega)
  have q1d : ((L.length : Int) < 1) = False := eq_false (by omega)
  have q2 : 64 < L.length := (by omega)
  have q2d : ((64 : Int) < (L.length : Int)) = True := eq_true (by omega)
  go_wp2
  go_ret
  exact ⟨rfl, hs⟩

set_option maxRecDepth 100000 in
set_option maxHeartbeats 4000000 in
theorem al_cvL_in {v : Value} {L : List Rat} (w : World) (hl : Rows 3 29 PC w v L) (h : 1 ≤ L.length) (h2 : L.length ≤ 64) : Calls Tryz.prog 100 #[v] w (RetV w (.int .i64 0)) := by
  obtain ⟨ao, cap, rfl, hc1, hc2, hc3⟩ := hl.toI.slice
  clear hl
  have hs := Below.refl w.heap.size w
  go_enter Tryz.func100, Tryz.ntmps100
  have q1 : ¬ (L.length < 1) := (by omega)
  have q1d : ((L.length : Int) < 1) = False := eq_false (by omega)
  have q2 : ¬ (64 < L.length) := (by omega)
  have q2d : ((64 : Int) < (L.length : Int)) = False := eq_false (by omega)
  go_wp2
  go_ret
  exact ⟨rfl, hs⟩

theorem al_cvL_all {v : Value} {L : List Rat} (w : World) (hl : Rows 3 29 PC w v L) {e : Int} (he : (if L.length < 1 ∨ 64 < L.length then (4 : Int) else 0) = e) : Calls Tryz.prog 100 #[v] w (RetV w (.int .i64 e)) := by
  subst he
  by_cases h1 : L.length < 1
  · rw [if_pos (.inl h1)]; exact al_cvL_few w hl h1
  · by_cases h2 : 64 < L.length
    · rw [if_pos (.inr h2)]; exact al_cvL_many w hl h2
    · rw [if_neg (by omega)]; exact al_cvL_in w hl (by omega) (by omega)



set_option maxRecDepth 100000 in
set_option maxHeartbeats 4000000 in
theorem al_mean {v : Value} {L : List Rat} (w : World) (hl : Rows 3 29 PC w v L) (g1 : 1 ≤ L.length) (g20 : L.length ≤ 20) {K : Nat} (hK : K ≤ 100000) (hz : ∀ i, i < L.length → SzQ K (nthQ L i)) {q : Rat} (hq : sumQ L L.length / ((L.length : Int) : Rat) = q) : Calls Tryz.prog 111 #[v] w (RetP w q) := by
  obtain ⟨bhl, ohl, khl, rfl, hl1, hl2, -⟩ := hl.open_ (by omega)
  have HZ := Lib.hid hz
  have HSS := Lib.hid (sumQ_sz hz g20)
  obtain ⟨su, hsu⟩ : ∃ su, sumQ L L.length = su := ⟨_, rfl⟩
  have ss : SzQ (20 * K + 100) su := hsu ▸ sumQ_sz hz g20 L.length (Nat.le_refl _)
  obtain ⟨n, hn⟩ : ∃ n : Rat, ((L.length : Int) : Rat) = n := ⟨_, rfl⟩
  have sn : SzQ 1 n := hn ▸ szQ_int (by omega)
  have ne : n ≠ 0 := fun e => by rw [← hn] at e; have : (L.length : Int) = 0 := by exact_mod_cast e
                                 omega
  rw [hsu, hn] at hq
  have HSU := Lib.hid hsu
  have HN := Lib.hid hn
  have HNE := Lib.hid ne
  have HQ := Lib.hid hq
  clear hz hsu hn ne hq
  have hs := Below.refl w.heap.size w
  go_enter Tryz.func111, Tryz.ntmps111
  go_wp2
  refine Code.abs ?_
  intro w1 hW
  have hG : Gr [] w w1 := by rw [hW]; exact (Gr.refl _ _).alloc.alloc
  have hbw : Below w.heap.size w w1 := hG.below0 hs.size
  have hk : KeepD w w1 := hG.keep True.intro
  have sz_w1 : w.heap.size ≤ w.heap.size := hs.size
  have nhl_w1 : bhl < w.heap.size := hl.lt (by omega)
  have Blk : Bx w1 (w.heap.size) 29 #[.bool false, .slice none 0 0, .slice none 0 0] := by rw [hW]; exact ((Bx.new0 _ _ _).alloc _)
  have Blsum : Bx w1 (w.heap.size + 1) 29 #[.bool false, .slice none 0 0, .slice none 0 0] := by rw [hW]; exact (Bx.new0 _ _ _)
  replace hs := hs.trans hbw
  replace hl := rowsJ PC.kept _ _ _ hl (hG.below0 (Nat.le_refl _))
  clear hW hG hk hbw
  have hz_w1 : w.heap.size + 1 < w1.heap.size := Blsum.lt
  go_loopw [10] (fun s10 wq => ∃ k : Nat, k ≤ L.length ∧ s10 = .int .i64 k ∧ Below w.heap.size w wq ∧ Bx wq (w.heap.size) 29 #[.bool false, .slice none 0 0, .slice none 0 0] ∧ Rows 3 29 PC wq (.slice (some ⟨bhl, ohl, none⟩) L.length khl) L ∧ BoxP wq (w.heap.size + 1) (sumQ L k)) (fun s10 _ => L.length - (intOf s10).toNat)
  case atStart => exact ⟨0, Nat.zero_le _, rfl, hs, Blk, hl, ⟨_, _, _, _, _, _, _, Blsum, (PV.zero _)⟩⟩
  case round =>
    clear Blk Blsum hl hs
    obtain ⟨k, k_le, rfl, hs, Blk, hl, ⟨sh1, ah1, nh1, ch1, Ah1, Nh1, Ch1, Blsum, h1⟩⟩ := hrel
    by_cases q2 : k < L.length
    · have q2d : ((k : Int) < (L.length : Int)) = True := eq_true (by omega)
      have BI3a : k < L.length := by omega
      have BI3b : ((k : Int) : Int) < (L.length : Int) := by omega
      obtain ⟨ge4a, ae4a, ne4a, ce4a, Ae4a, Ne4a, De4a, Ee40, Ee41, Ee42, he4a, le4⟩ := rowP_at hl (show k < L.length by omega)
      go_upto_region 5 with fail
      clear le4 Ee40 Ee41 Ee42
      refine Code.abs ?_
      intro w22 hW
      have hG : Gr [] wr w22 := by rw [hW]; exact (Gr.refl _ _).alloc
      have hbw : Below w.heap.size wr w22 := hG.below0 hs.size
      have hk : KeepD wr w22 := hG.keep True.intro
      have sz_w22 : w.heap.size ≤ wr.heap.size := hs.size
      have nk_w22 : w.heap.size < wr.heap.size := Blk.lt
      have nsum_w22 : w.heap.size + 1 < wr.heap.size := Blsum.lt
      have nhl_w22 : bhl < wr.heap.size := hl.lt (by omega)
      have Blx : Bx w22 (wr.heap.size) 29 #[.bool ge4a, .slice ae4a ne4a ce4a, .slice Ae4a Ne4a De4a] := by rw [hW]; exact (Bx.new0 _ _ _)
      replace hs := hs.trans hbw
      replace hl := rowsJ PC.kept _ _ _ hl (hG.below0 (Nat.le_refl _))
      replace Blk := hG.bx Blk notMem0
      replace Blsum := hG.bx Blsum notMem0
      replace h1 := h1.keep hk
      replace he4a := he4a.keep hk
      clear hW hG hk hbw
      have hz_w22 : wr.heap.size < w22.heap.size := Blx.lt
      have csum_0 : w22.cell? ⟨w.heap.size + 1, 0, none⟩ = some (.bool sh1) := Blsum.at 0 rfl
      have csum_1 : w22.cell? ⟨w.heap.size + 1, 1, none⟩ = some (.slice ah1 nh1 ch1) := Blsum.at 1 rfl
      have csum_2 : w22.cell? ⟨w.heap.size + 1, 2, none⟩ = some (.slice Ah1 Nh1 Ch1) := Blsum.at 2 rfl
      have Lsum : w.heap.size + 1 < w22.heap.size := Blsum.lt
      have cx_0 : w22.cell? ⟨wr.heap.size, 0, none⟩ = some (.bool ge4a) := Blx.at 0 rfl
      have cx_1 : w22.cell? ⟨wr.heap.size, 1, none⟩ = some (.slice ae4a ne4a ce4a) := Blx.at 1 rfl
      have cx_2 : w22.cell? ⟨wr.heap.size, 2, none⟩ = some (.slice Ae4a Ne4a De4a) := Blx.at 2 rfl
      have Lx : wr.heap.size < w22.heap.size := Blx.lt
      go_wp2_with fail
      clear csum_0 csum_1 csum_2 cx_0 cx_1 cx_2 Lsum Lx
      with_reducible refine (pAdd h1 he4a (SzQ.fit (HSS.out k (by omega))) (SzQ.fit (HZ.out k (by omega)))).mono ?_
      rintro e w23 ⟨_, rfl, h5, hb⟩
      obtain ⟨sh5, ah5, nh5, ch5, Ah5, Nh5, Ch5, rfl⟩ := h5.shape
      replace hs := bStep hs hb
      replace Blk := Blk.mono hb
      replace Blsum := Blsum.mono hb
      replace Blx := Blx.mono hb
      replace h1 := h1.mono hb
      replace he4a := he4a.mono hb
      replace hl := rowsJ PC.kept _ _ _ hl hb
      clear hb
      have csum_0 : w23.cell? ⟨w.heap.size + 1, 0, none⟩ = some (.bool sh1) := Blsum.at 0 rfl
      have csum_1 : w23.cell? ⟨w.heap.size + 1, 1, none⟩ = some (.slice ah1 nh1 ch1) := Blsum.at 1 rfl
      have csum_2 : w23.cell? ⟨w.heap.size + 1, 2, none⟩ = some (.slice Ah1 Nh1 Ch1) := Blsum.at 2 rfl
      have fsum := Blsum.free
      have Lsum : w.heap.size + 1 < w23.heap.size := Blsum.lt
      go_upto_region 6 with fail
      clear csum_0 csum_1 csum_2 fsum Lsum
      refine Code.abs ?_
      intro w24 hW
      have hG : Gr [w.heap.size + 1] w23 w24 := by rw [hW]; exact (Gr.refl _ _).set.set.set
      have hsz := hs.size
      have lsum := Blsum.lt
      have hbw : Below w.heap.size w23 w24 := hG.below1 hs.size (by first | omega | assumption)
      have hk : KeepD w23 w24 := hG.keep ⟨⟨_, Blsum.ty, by decide⟩, True.intro⟩
      have Bl1sum : Bx w24 (w.heap.size + 1) 29 #[.bool sh5, .slice ah5 nh5 ch5, .slice Ah5 Nh5 Ch5] := by rw [hW]; exact Blsum.set3
      replace hs := hs.trans hbw
      replace hl := hl.gr PC.kept hG (notMem1 (by omega)) hk
      replace Blk := hG.bx Blk (notMem1 (by omega))
      replace Blx := hG.bx Blx (notMem1 (by omega))
      replace Blsum := Bl1sum
      clear Bl1sum
      replace h1 := h1.keep hk
      replace he4a := he4a.keep hk
      replace h5 := h5.keep hk
      clear hW hG hk hbw hsz lsum
      go_wp2
      go_roundw
      case rel => exact ⟨k + 1, by omega, by go_num, hs, Blk, hl, ⟨_, _, _, _, _, _, _, Blsum, (h5.of_eq (by rfl))⟩⟩
      all_goals first | (simp [intOf]; done) | (simp [intOf]; omega)
    · have q2d : ((k : Int) < (L.length : Int)) = False := eq_false (by omega)
      obtain rfl : k = L.length := by omega
      replace h1 := h1.of_eq HSU.out
      go_upto_region 7 with fail
      go_cut [6, 7] (fun kv0 kx0 wz => ∃ gout sh4 ah4 nh4 ch4 Ah4 Nh4 Ch4, kv0 = .pointer (some ⟨gout, 0, none⟩) ∧ kx0 = .int .i64 0 ∧ w.heap.size ≤ gout ∧ gout ≠ w.heap.size ∧ gout ≠ (w.heap.size + 1) ∧ bhl ≠ gout ∧ Bx wz gout 29 #[.bool sh4, .slice ah4 nh4 ch4, .slice Ah4 Nh4 Ch4] ∧ Below w.heap.size w wz ∧ Bx wz (w.heap.size) 29 #[.bool false, .slice none 0 0, .slice none 0 0] ∧ Bx wz (w.heap.size + 1) 29 #[.bool sh1, .slice ah1 nh1 ch1, .slice Ah1 Nh1 Ch1] ∧ PV wz (.agg #[.bool sh1, .slice ah1 nh1 ch1, .slice Ah1 Nh1 Ch1]) (su) ∧ PV wz (.agg #[.bool sh4, .slice ah4 nh4 ch4, .slice Ah4 Nh4 Ch4]) (su / n) ∧ Rows 3 29 PC wz (.slice (some ⟨bhl, ohl, none⟩) L.length khl) L)
      case first =>
        refine U_region (S := fun w' => w'.cell? ⟨w.heap.size + 1, 0, none⟩ = some (.bool sh1) ∧ w'.cell? ⟨w.heap.size + 1, 1, none⟩ = some (.slice ah1 nh1 ch1) ∧ w'.cell? ⟨w.heap.size + 1, 2, none⟩ = some (.slice Ah1 Nh1 Ch1)) (by kernel_rfl) 10 ?_
        refine AnyU.abs ?_
        intro w22 hW
        have hb : Below wr.heap.size wr w22 := by rw [hW]; exact bDrew _
        replace hs := bStep hs hb
        replace Blk := Blk.mono hb
        replace Blsum := Blsum.mono hb
        replace h1 := h1.mono hb
        replace hl := rowsJ PC.kept _ _ _ hl hb
        clear hb hW
        have csum_0 : w22.cell? ⟨w.heap.size + 1, 0, none⟩ = some (.bool sh1) := Blsum.at 0 rfl
        have csum_1 : w22.cell? ⟨w.heap.size + 1, 1, none⟩ = some (.slice ah1 nh1 ch1) := Blsum.at 1 rfl
        have csum_2 : w22.cell? ⟨w.heap.size + 1, 2, none⟩ = some (.slice Ah1 Nh1 Ch1) := Blsum.at 2 rfl
        have hH := (show w22.cell? ⟨w.heap.size + 1, 0, none⟩ = some (.bool sh1) ∧ w22.cell? ⟨w.heap.size + 1, 1, none⟩ = some (.slice ah1 nh1 ch1) ∧ w22.cell? ⟨w.heap.size + 1, 2, none⟩ = some (.slice Ah1 Nh1 Ch1) from ⟨csum_0, csum_1, csum_2⟩)
        refine U_tt 0 ?_ ?_ hH ?_
        rotate_left
        · (intro w hSw; (try dsimp only at hSw); go_simp; try with_reducible rfl)
        try simp only [LY]
        refine U_tt 1 ?_ ?_ hH ?_
        rotate_left
        · (intro w hSw; (try dsimp only at hSw); go_simp; try with_reducible rfl)
        try simp only [LY]
        refine U_tt 2 ?_ ?_ hH ?_
        rotate_left
        · (intro w hSw; (try dsimp only at hSw); go_simp; try with_reducible rfl)
        try simp only [LY]
        refine U_two (i := 3) (j := 8) (by kernel_rfl) rfl rfl (fun K hK => ?_) (fun K hK => ?_)
        · clear hH
          go_simp
          (with_reducible refine (al_wholeN HN.out _ (by omega)).mono ?_)
          rintro e w23 ⟨_, rfl, h3, hb⟩
          obtain ⟨sh3, ah3, nh3, ch3, Ah3, Nh3, Ch3, rfl⟩ := h3.shape
          replace hs := bStep hs hb
          replace Blk := Blk.mono hb
          replace Blsum := Blsum.mono hb
          replace h1 := h1.mono hb
          replace hl := rowsJ PC.kept _ _ _ hl hb
          replace csum_0 := cellK csum_0 hb
          replace csum_1 := cellK csum_1 hb
          replace csum_2 := cellK csum_2 hb
          clear hb
          try go_wp2_with fail
          refine hK.out _ _ ⟨csum_0, csum_1, csum_2⟩ (fun hH => ?_)
          clear hK K
          try simp only [LY]
          refine U_two (i := 4) (j := 8) (by kernel_rfl) rfl rfl (fun K hK => ?_) (fun K hK => ?_)
          · clear hH
            go_simp
            (with_reducible refine (pDiv h1 h3 (SzQ.fit ss) (SzQ.fit sn) HNE.out).mono ?_)
            rintro e w24 ⟨_, rfl, h4, hb⟩
            obtain ⟨sh4, ah4, nh4, ch4, Ah4, Nh4, Ch4, rfl⟩ := h4.shape
            replace hs := bStep hs hb
            replace Blk := Blk.mono hb
            replace Blsum := Blsum.mono hb
            replace h1 := h1.mono hb
            replace h3 := h3.mono hb
            replace hl := rowsJ PC.kept _ _ _ hl hb
            replace csum_0 := cellK csum_0 hb
            replace csum_1 := cellK csum_1 hb
            replace csum_2 := cellK csum_2 hb
            clear hb
            try go_wp2_with fail
            refine hK.out _ _ ⟨csum_0, csum_1, csum_2⟩ (fun hH => ?_)
            clear hK K
            try simp only [LY]
            refine U_tt 5 ?_ ?_ hH ?_
            rotate_left
            · (intro w hSw; (try dsimp only at hSw); go_simp; try with_reducible rfl)
            try simp only [LY]
            refine U_tt 6 ?_ ?_ hH ?_
            rotate_left
            · (intro w hSw; (try dsimp only at hSw); go_simp; try with_reducible rfl)
            try simp only [LY]
            refine U_tt 7 ?_ ?_ hH ?_
            rotate_left
            · (intro w hSw; (try dsimp only at hSw); go_simp; try with_reducible rfl)
            try simp only [LY]
            clear hH
            refine U_one (i := 8) (by kernel_rfl) rfl (fun K hK => ?_)
            go_simp
            generalize hWn : (w24.alloc (.cells #[.bool false, .slice none 0 0, .slice none 0 0] 29)) = w25
            have hb : Below w24.heap.size w24 w25 := by rw [← hWn]; exact (Below.refl _ _).alloc (Nat.le_refl _) _
            have Blout : Bx w25 (w24.heap.size) 29 #[.bool false, .slice none 0 0, .slice none 0 0] := by rw [← hWn]; exact Bx.new _ _ _
            have nk_out : w.heap.size ≠ w24.heap.size := by have := Blk.lt; omega
            have nsum_out : w.heap.size + 1 ≠ w24.heap.size := by have := Blsum.lt; omega
            have nhl_out : bhl < w24.heap.size := hl.lt (by omega)
            have sz_out : w.heap.size ≤ w24.heap.size := hs.size
            replace hs := bStep hs hb
            replace Blk := Blk.mono hb
            replace Blsum := Blsum.mono hb
            replace h1 := h1.mono hb
            replace h3 := h3.mono hb
            replace h4 := h4.mono hb
            replace hl := rowsJ PC.kept _ _ _ hl hb
            replace csum_0 := cellK csum_0 hb
            replace csum_1 := cellK csum_1 hb
            replace csum_2 := cellK csum_2 hb
            clear hb hWn
            refine hK.out _ _ ⟨csum_0, csum_1, csum_2⟩ (fun hH => ?_)
            clear hK K
            try simp only [LY]
            clear hH
            have cout_0 : w25.cell? ⟨w24.heap.size, 0, none⟩ = some (.bool false) := Blout.at 0 rfl
            have cout_1 : w25.cell? ⟨w24.heap.size, 1, none⟩ = some (.slice none 0 0) := Blout.at 1 rfl
            have cout_2 : w25.cell? ⟨w24.heap.size, 2, none⟩ = some (.slice none 0 0) := Blout.at 2 rfl
            have fout := Blout.free
            have Lout : w24.heap.size < w25.heap.size := Blout.lt
            refine U_one (i := 9) (by kernel_rfl) rfl (fun K hK => ?_)
            go_simp
            generalize hW_ : (((w25.setCell ⟨w24.heap.size, 0, none⟩ (.bool sh4)).setCell ⟨w24.heap.size, 1, none⟩ (.slice ah4 nh4 ch4)).setCell ⟨w24.heap.size, 2, none⟩ (.slice Ah4 Nh4 Ch4)) = w26
            have hW := hW_.symm
            clear hW_
            have hG : Gr [w24.heap.size] w25 w26 := by rw [hW]; exact (Gr.refl _ _).set.set.set
            have hsz := hs.size
            have lout := Blout.lt
            have hbw : Below w.heap.size w25 w26 := hG.below1 hs.size (by first | omega | assumption)
            have hk : KeepD w25 w26 := hG.keep ⟨⟨_, Blout.ty, by decide⟩, True.intro⟩
            have Bl1out : Bx w26 (w24.heap.size) 29 #[.bool sh4, .slice ah4 nh4 ch4, .slice Ah4 Nh4 Ch4] := by rw [hW]; exact Blout.set3
            replace hs := hs.trans hbw
            replace hl := hl.gr PC.kept hG (notMem1 (by omega)) hk
            replace Blk := hG.bx Blk (notMem1 (by omega))
            replace Blsum := hG.bx Blsum (notMem1 (by omega))
            replace Blout := Bl1out
            clear Bl1out
            replace h1 := h1.keep hk
            replace h3 := h3.keep hk
            replace h4 := h4.keep hk
            replace csum_0 := hG.cell csum_0 (notMem1 (by dsimp only; omega))
            replace csum_1 := hG.cell csum_1 (notMem1 (by dsimp only; omega))
            replace csum_2 := hG.cell csum_2 (notMem1 (by dsimp only; omega))
            clear hW hG hk hbw hsz lout
            refine hK.out _ _ ⟨csum_0, csum_1, csum_2⟩ (fun hH => ?_)
            clear hK K
            try simp only [LY]
            clear hH
            refine U_last (by kernel_rfl) rfl (by kernel_rfl) (fun K hK => ?_)
            go_simp
            refine hK.out _ _ ?_
            clear hK K
            intro wl hW
            rw [hW]
            clear hW wl
            try simp only [LY]
            clear csum_0 csum_1 csum_2
            go_wp2_with fail
            go_meet
            exact ⟨w24.heap.size, _, _, _, _, _, _, _, rfl, rfl, (by first | exact sz_out | omega), (by omega), (by omega), (by omega), Blout, hs, Blk, Blsum, h1, h4, hl⟩
          · clear hH
            go_simp
            generalize hWn : (w23.alloc (.cells #[.bool false, .slice none 0 0, .slice none 0 0] 29)) = w24
            have hb : Below w23.heap.size w23 w24 := by rw [← hWn]; exact (Below.refl _ _).alloc (Nat.le_refl _) _
            have Blout : Bx w24 (w23.heap.size) 29 #[.bool false, .slice none 0 0, .slice none 0 0] := by rw [← hWn]; exact Bx.new _ _ _
            have nk_out : w.heap.size ≠ w23.heap.size := by have := Blk.lt; omega
            have nsum_out : w.heap.size + 1 ≠ w23.heap.size := by have := Blsum.lt; omega
            have nhl_out : bhl < w23.heap.size := hl.lt (by omega)
            have sz_out : w.heap.size ≤ w23.heap.size := hs.size
            replace hs := bStep hs hb
            replace Blk := Blk.mono hb
            replace Blsum := Blsum.mono hb
            replace h1 := h1.mono hb
            replace h3 := h3.mono hb
            replace hl := rowsJ PC.kept _ _ _ hl hb
            replace csum_0 := cellK csum_0 hb
            replace csum_1 := cellK csum_1 hb
            replace csum_2 := cellK csum_2 hb
            clear hb hWn
            refine hK.out _ _ ⟨csum_0, csum_1, csum_2⟩ (fun hH => ?_)
            clear hK K
            try simp only [LY]
            clear hH
            refine U_one (i := 4) (by kernel_rfl) rfl (fun K hK => ?_)
            go_simp
            (with_reducible refine (pDiv h1 h3 (SzQ.fit ss) (SzQ.fit sn) HNE.out).mono ?_)
            rintro e w25 ⟨_, rfl, h4, hb⟩
            obtain ⟨sh4, ah4, nh4, ch4, Ah4, Nh4, Ch4, rfl⟩ := h4.shape
            replace hs := bStep hs hb
            replace Blk := Blk.mono hb
            replace Blsum := Blsum.mono hb
            replace Blout := Blout.mono hb
            replace h1 := h1.mono hb
            replace h3 := h3.mono hb
            replace hl := rowsJ PC.kept _ _ _ hl hb
            replace csum_0 := cellK csum_0 hb
            replace csum_1 := cellK csum_1 hb
            replace csum_2 := cellK csum_2 hb
            clear hb
            try go_wp2_with fail
            refine hK.out _ _ ⟨csum_0, csum_1, csum_2⟩ (fun hH => ?_)
            clear hK K
            try simp only [LY]
            refine U_tt 5 ?_ ?_ hH ?_
            rotate_left
            · (intro w hSw; (try dsimp only at hSw); go_simp; try with_reducible rfl)
            try simp only [LY]
            refine U_tt 6 ?_ ?_ hH ?_
            rotate_left
            · (intro w hSw; (try dsimp only at hSw); go_simp; try with_reducible rfl)
            try simp only [LY]
            refine U_tt 7 ?_ ?_ hH ?_
            rotate_left
            · (intro w hSw; (try dsimp only at hSw); go_simp; try with_reducible rfl)
            try simp only [LY]
            clear hH
            have cout_0 : w25.cell? ⟨w23.heap.size, 0, none⟩ = some (.bool false) := Blout.at 0 rfl
            have cout_1 : w25.cell? ⟨w23.heap.size, 1, none⟩ = some (.slice none 0 0) := Blout.at 1 rfl
            have cout_2 : w25.cell? ⟨w23.heap.size, 2, none⟩ = some (.slice none 0 0) := Blout.at 2 rfl
            have fout := Blout.free
            have Lout : w23.heap.size < w25.heap.size := Blout.lt
            refine U_one (i := 9) (by kernel_rfl) rfl (fun K hK => ?_)
            go_simp
            generalize hW_ : (((w25.setCell ⟨w23.heap.size, 0, none⟩ (.bool sh4)).setCell ⟨w23.heap.size, 1, none⟩ (.slice ah4 nh4 ch4)).setCell ⟨w23.heap.size, 2, none⟩ (.slice Ah4 Nh4 Ch4)) = w26
            have hW := hW_.symm
            clear hW_
            have hG : Gr [w23.heap.size] w25 w26 := by rw [hW]; exact (Gr.refl _ _).set.set.set
            have hsz := hs.size
            have lout := Blout.lt
            have hbw : Below w.heap.size w25 w26 := hG.below1 hs.size (by first | omega | assumption)
            have hk : KeepD w25 w26 := hG.keep ⟨⟨_, Blout.ty, by decide⟩, True.intro⟩
            have Bl1out : Bx w26 (w23.heap.size) 29 #[.bool sh4, .slice ah4 nh4 ch4, .slice Ah4 Nh4 Ch4] := by rw [hW]; exact Blout.set3
            replace hs := hs.trans hbw
            replace hl := hl.gr PC.kept hG (notMem1 (by omega)) hk
            replace Blk := hG.bx Blk (notMem1 (by omega))
            replace Blsum := hG.bx Blsum (notMem1 (by omega))
            replace Blout := Bl1out
            clear Bl1out
            replace h1 := h1.keep hk
            replace h3 := h3.keep hk
            replace h4 := h4.keep hk
            replace csum_0 := hG.cell csum_0 (notMem1 (by dsimp only; omega))
            replace csum_1 := hG.cell csum_1 (notMem1 (by dsimp only; omega))
            replace csum_2 := hG.cell csum_2 (notMem1 (by dsimp only; omega))
            clear hW hG hk hbw hsz lout
            refine hK.out _ _ ⟨csum_0, csum_1, csum_2⟩ (fun hH => ?_)
            clear hK K
            try simp only [LY]
            clear hH
            refine U_last (by kernel_rfl) rfl (by kernel_rfl) (fun K hK => ?_)
            go_simp
            refine hK.out _ _ ?_
            clear hK K
            intro wl hW
            rw [hW]
            clear hW wl
            try simp only [LY]
            clear csum_0 csum_1 csum_2
            go_wp2_with fail
            go_meet
            exact ⟨w23.heap.size, _, _, _, _, _, _, _, rfl, rfl, (by first | exact sz_out | omega), (by omega), (by omega), (by omega), Blout, hs, Blk, Blsum, h1, h4, hl⟩
        · clear hH
          go_simp
          generalize hWn : (w22.alloc (.cells #[.bool false, .slice none 0 0, .slice none 0 0] 29)) = w23
          have hb : Below w22.heap.size w22 w23 := by rw [← hWn]; exact (Below.refl _ _).alloc (Nat.le_refl _) _
          have Blout : Bx w23 (w22.heap.size) 29 #[.bool false, .slice none 0 0, .slice none 0 0] := by rw [← hWn]; exact Bx.new _ _ _
          have nk_out : w.heap.size ≠ w22.heap.size := by have := Blk.lt; omega
          have nsum_out : w.heap.size + 1 ≠ w22.heap.size := by have := Blsum.lt; omega
          have nhl_out : bhl < w22.heap.size := hl.lt (by omega)
          have sz_out : w.heap.size ≤ w22.heap.size := hs.size
          replace hs := bStep hs hb
          replace Blk := Blk.mono hb
          replace Blsum := Blsum.mono hb
          replace h1 := h1.mono hb
          replace hl := rowsJ PC.kept _ _ _ hl hb
          replace csum_0 := cellK csum_0 hb
          replace csum_1 := cellK csum_1 hb
          replace csum_2 := cellK csum_2 hb
          clear hb hWn
          refine hK.out _ _ ⟨csum_0, csum_1, csum_2⟩ (fun hH => ?_)
          clear hK K
          try simp only [LY]
          clear hH
          refine U_one (i := 3) (by kernel_rfl) rfl (fun K hK => ?_)
          go_simp
          (with_reducible refine (al_wholeN HN.out _ (by omega)).mono ?_)
          rintro e w24 ⟨_, rfl, h3, hb⟩
          obtain ⟨sh3, ah3, nh3, ch3, Ah3, Nh3, Ch3, rfl⟩ := h3.shape
          replace hs := bStep hs hb
          replace Blk := Blk.mono hb
          replace Blsum := Blsum.mono hb
          replace Blout := Blout.mono hb
          replace h1 := h1.mono hb
          replace hl := rowsJ PC.kept _ _ _ hl hb
          replace csum_0 := cellK csum_0 hb
          replace csum_1 := cellK csum_1 hb
          replace csum_2 := cellK csum_2 hb
          clear hb
          try go_wp2_with fail
          refine hK.out _ _ ⟨csum_0, csum_1, csum_2⟩ (fun hH => ?_)
          clear hK K
          try simp only [LY]
          clear hH
          refine U_one (i := 4) (by kernel_rfl) rfl (fun K hK => ?_)
          go_simp
          (with_reducible refine (pDiv h1 h3 (SzQ.fit ss) (SzQ.fit sn) HNE.out).mono ?_)
          rintro e w25 ⟨_, rfl, h4, hb⟩
          obtain ⟨sh4, ah4, nh4, ch4, Ah4, Nh4, Ch4, rfl⟩ := h4.shape
          replace hs := bStep hs hb
          replace Blk := Blk.mono hb
          replace Blsum := Blsum.mono hb
          replace Blout := Blout.mono hb
          replace h1 := h1.mono hb
          replace h3 := h3.mono hb
          replace hl := rowsJ PC.kept _ _ _ hl hb
          replace csum_0 := cellK csum_0 hb
          replace csum_1 := cellK csum_1 hb
          replace csum_2 := cellK csum_2 hb
          clear hb
          try go_wp2_with fail
          refine hK.out _ _ ⟨csum_0, csum_1, csum_2⟩ (fun hH => ?_)
          clear hK K
          try simp only [LY]
          refine U_tt 5 ?_ ?_ hH ?_
          rotate_left
          · (intro w hSw; (try dsimp only at hSw); go_simp; try with_reducible rfl)
          try simp only [LY]
          refine U_tt 6 ?_ ?_ hH ?_
          rotate_left
          · (intro w hSw; (try dsimp only at hSw); go_simp; try with_reducible rfl)
          try simp only [LY]
          refine U_tt 7 ?_ ?_ hH ?_
          rotate_left
          · (intro w hSw; (try dsimp only at hSw); go_simp; try with_reducible rfl)
          try simp only [LY]
          clear hH
          have cout_0 : w25.cell? ⟨w22.heap.size, 0, none⟩ = some (.bool false) := Blout.at 0 rfl
          have cout_1 : w25.cell? ⟨w22.heap.size, 1, none⟩ = some (.slice none 0 0) := Blout.at 1 rfl
          have cout_2 : w25.cell? ⟨w22.heap.size, 2, none⟩ = some (.slice none 0 0) := Blout.at 2 rfl
          have fout := Blout.free
          have Lout : w22.heap.size < w25.heap.size := Blout.lt
          refine U_one (i := 9) (by kernel_rfl) rfl (fun K hK => ?_)
          go_simp
          generalize hW_ : (((w25.setCell ⟨w22.heap.size, 0, none⟩ (.bool sh4)).setCell ⟨w22.heap.size, 1, none⟩ (.slice ah4 nh4 ch4)).setCell ⟨w22.heap.size, 2, none⟩ (.slice Ah4 Nh4 Ch4)) = w26
          have hW := hW_.symm
          clear hW_
          have hG : Gr [w22.heap.size] w25 w26 := by rw [hW]; exact (Gr.refl _ _).set.set.set
          have hsz := hs.size
          have lout := Blout.lt
          have hbw : Below w.heap.size w25 w26 := hG.below1 hs.size (by first | omega | assumption)
          have hk : KeepD w25 w26 := hG.keep ⟨⟨_, Blout.ty, by decide⟩, True.intro⟩
          have Bl1out : Bx w26 (w22.heap.size) 29 #[.bool sh4, .slice ah4 nh4 ch4, .slice Ah4 Nh4 Ch4] := by rw [hW]; exact Blout.set3
          replace hs := hs.trans hbw
          replace hl := hl.gr PC.kept hG (notMem1 (by omega)) hk
          replace Blk := hG.bx Blk (notMem1 (by omega))
          replace Blsum := hG.bx Blsum (notMem1 (by omega))
          replace Blout := Bl1out
          clear Bl1out
          replace h1 := h1.keep hk
          replace h3 := h3.keep hk
          replace h4 := h4.keep hk
          replace csum_0 := hG.cell csum_0 (notMem1 (by dsimp only; omega))
          replace csum_1 := hG.cell csum_1 (notMem1 (by dsimp only; omega))
          replace csum_2 := hG.cell csum_2 (notMem1 (by dsimp only; omega))
          clear hW hG hk hbw hsz lout
          refine hK.out _ _ ⟨csum_0, csum_1, csum_2⟩ (fun hH => ?_)
          clear hK K
          try simp only [LY]
          clear hH
          refine U_last (by kernel_rfl) rfl (by kernel_rfl) (fun K hK => ?_)
          go_simp
          refine hK.out _ _ ?_
          clear hK K
          intro wl hW
          rw [hW]
          clear hW wl
          try simp only [LY]
          clear csum_0 csum_1 csum_2
          go_wp2_with fail
          go_meet
          exact ⟨w22.heap.size, _, _, _, _, _, _, _, rfl, rfl, (by first | exact sz_out | omega), (by omega), (by omega), (by omega), Blout, hs, Blk, Blsum, h1, h4, hl⟩
      case rest =>
        clear hs Blk Blsum h1 hl
        obtain ⟨gout, sh4, ah4, nh4, ch4, Ah4, Nh4, Ch4, rfl, rfl, hg_out, ng_out_k, ng_out_sum, ngr_out_hl, Blout, hs, Blk, Blsum, h1, h4, hl⟩ := hcut
        have cout_0 : wc.cell? ⟨gout, 0, none⟩ = some (.bool sh4) := Blout.at 0 rfl
        have cout_1 : wc.cell? ⟨gout, 1, none⟩ = some (.slice ah4 nh4 ch4) := Blout.at 1 rfl
        have cout_2 : wc.cell? ⟨gout, 2, none⟩ = some (.slice Ah4 Nh4 Ch4) := Blout.at 2 rfl
        have Lout : gout < wc.heap.size := Blout.lt
        have ck_0 : wc.cell? ⟨w.heap.size, 0, none⟩ = some (.bool false) := Blk.at 0 rfl
        have ck_1 : wc.cell? ⟨w.heap.size, 1, none⟩ = some (.slice none 0 0) := Blk.at 1 rfl
        have ck_2 : wc.cell? ⟨w.heap.size, 2, none⟩ = some (.slice none 0 0) := Blk.at 2 rfl
        have fk := Blk.free
        have Lk : w.heap.size < wc.heap.size := Blk.lt
        go_wp2
        clear cout_0 cout_1 cout_2 ck_0 ck_1 ck_2 fk Lout Lk
        refine bodyPost.abs ?_
        intro w22 hW
        have hG : Gr [w.heap.size] wc w22 := by rw [hW]; exact (Gr.refl _ _).set.set.set
        have hsz := hs.size
        have lk := Blk.lt
        have hbw : Below w.heap.size wc w22 := hG.below1 hs.size (by first | omega | assumption)
        have hk : KeepD wc w22 := hG.keep ⟨⟨_, Blk.ty, by decide⟩, True.intro⟩
        have Bl1k : Bx w22 (w.heap.size) 29 #[.bool sh4, .slice ah4 nh4 ch4, .slice Ah4 Nh4 Ch4] := by rw [hW]; exact Blk.set3
        replace hs := hs.trans hbw
        replace hl := hl.gr PC.kept hG (notMem1 (by omega)) hk
        replace Blsum := hG.bx Blsum (notMem1 (by omega))
        replace Blout := hG.bx Blout (notMem1 (by omega))
        replace Blk := Bl1k
        clear Bl1k
        replace h1 := h1.keep hk
        replace h4 := h4.keep hk
        clear hW hG hk hbw hsz lk
        have ck_0 : w22.cell? ⟨w.heap.size, 0, none⟩ = some (.bool sh4) := Blk.at 0 rfl
        have ck_1 : w22.cell? ⟨w.heap.size, 1, none⟩ = some (.slice ah4 nh4 ch4) := Blk.at 1 rfl
        have ck_2 : w22.cell? ⟨w.heap.size, 2, none⟩ = some (.slice Ah4 Nh4 Ch4) := Blk.at 2 rfl
        exact bodyPost_ret (v := .agg #[.bool sh4, .slice ah4 nh4 ch4, .slice Ah4 Nh4 Ch4]) (by simp [results, Tryz.results111, go_sem, ck_0, ck_1, ck_2]) rfl ⟨_, rfl, h4.of_eq (by rw [HQ.out]), hs⟩

set_option maxRecDepth 100000 in
set_option maxHeartbeats 4000000 in
theorem al_squares {v : Value} {L : List Rat} (w : World) (hl : Rows 3 29 PC w v L) (g1 : 1 ≤ L.length) (g20 : L.length ≤ 20) {K : Nat} (hK : K ≤ 100000) (hz : ∀ i, i < L.length → SzQ K (nthQ L i)) {m : Rat} (hm : sumQ L L.length / ((L.length : Int) : Rat) = m) (sm : SzQ (20 * K + 101) m) : Calls Tryz.prog 112 #[v] w (Ret1 (fun w v => Rows 3 29 PC w v (sqK L m L.length)) w) := by
  obtain ⟨bhl, ohl, khl, rfl, hl1, hl2, -⟩ := hl.open_ (by omega)
  have HZ := Lib.hid hz
  have HM := Lib.hid hm
  clear hz hm
  obtain ⟨i0, hi, hz0, hz1, hz2⟩ := info_parts alP_info
  have hs := Below.refl w.heap.size w
  go_enter Tryz.func112, Tryz.ntmps112
  go_wp2_with fail
  with_reducible refine (al_mean _ hl g1 g20 hK HZ.out HM.out).mono ?_
  rintro e w1 ⟨_, rfl, h1, hb⟩
  obtain ⟨sh1, ah1, nh1, ch1, Ah1, Nh1, Ch1, rfl⟩ := h1.shape
  replace hs := bStep hs hb
  replace hl := rowsJ PC.kept _ _ _ hl hb
  clear hb
  go_wp2
  refine Code.abs ?_
  intro w2 hW
  have hG : Gr [] w1 w2 := by rw [hW]; exact (Gr.refl _ _).alloc
  have hbw : Below w.heap.size w1 w2 := hG.below0 hs.size
  have hk : KeepD w1 w2 := hG.keep True.intro
  have sz_w2 : w.heap.size ≤ w1.heap.size := hs.size
  have nhl_w2 : bhl < w1.heap.size := hl.lt (by omega)
  have Blm : Bx w2 (w1.heap.size) 29 #[.bool sh1, .slice ah1 nh1 ch1, .slice Ah1 Nh1 Ch1] := by rw [hW]; exact (Bx.new0 _ _ _)
  replace hs := hs.trans hbw
  replace hl := rowsJ PC.kept _ _ _ hl (hG.below0 (Nat.le_refl _))
  replace h1 := h1.keep hk
  clear hW hG hk hbw
  have hz_w2 : w1.heap.size < w2.heap.size := Blm.lt
  have HB0_2 := Lib.hid hs
  clear hs
  have hs := Below.refl w2.heap.size w2
  have nb_m : w1.heap.size < w2.heap.size := Blm.lt
  have Fhl := Lib.hid hl
  clear hl
  go_loopw [4, 12] (fun s4 s12 wq => ∃ k : Nat, k ≤ L.length ∧ s12 = .int .i64 k ∧ Below w2.heap.size w2 wq ∧ Bx wq (w1.heap.size) 29 #[.bool sh1, .slice ah1 nh1 ch1, .slice Ah1 Nh1 Ch1] ∧ PV wq (.agg #[.bool sh1, .slice ah1 nh1 ch1, .slice Ah1 Nh1 Ch1]) (m) ∧ OwnR w2.heap.size 29 3 PC wq s4 (sqK L m k)) (fun s4 s12 _ => L.length - (intOf s12).toNat)
  case atStart => exact ⟨0, Nat.zero_le _, rfl, hs, Blm, h1, OwnR.nil _ _ _ _ _⟩
  case round =>
    clear Blm h1 hs
    obtain ⟨k, k_le, rfl, hs, Blm, h1, Oou⟩ := hrel
    have lnr1 : (sqK L m k).length ≤ k := Nat.le_of_eq (sqK_len L m k_le)
    by_cases q3 : k < L.length
    · have q3d : ((k : Int) < (L.length : Int)) = True := eq_true (by omega)
      have BI4a : k < L.length := by omega
      have BI4b : ((k : Int) : Int) < (L.length : Int) := by omega
      obtain ⟨ge5a, ae5a, ne5a, ce5a, Ae5a, Ne5a, De5a, Ee50, Ee51, Ee52, he5a, le5⟩ := rowP_at (rowsJ PC.kept _ _ _ Fhl.out hs) (show k < L.length by omega)
      have cm_0 : wr.cell? ⟨w1.heap.size, 0, none⟩ = some (.bool sh1) := Blm.at 0 rfl
      have cm_1 : wr.cell? ⟨w1.heap.size, 1, none⟩ = some (.slice ah1 nh1 ch1) := Blm.at 1 rfl
      have cm_2 : wr.cell? ⟨w1.heap.size, 2, none⟩ = some (.slice Ah1 Nh1 Ch1) := Blm.at 2 rfl
      have Lm : w1.heap.size < wr.heap.size := Blm.lt
      go_wp2_with fail
      clear cm_0 cm_1 cm_2 Lm le5 Ee50 Ee51 Ee52
      refine Calls.abs ?_
      intro w23 hW
      have hG : Gr [] wr w23 := by rw [hW]; exact (Gr.refl _ _).alloc
      have hbw : Below w2.heap.size wr w23 := hG.below0 hs.size
      have hk : KeepD wr w23 := hG.keep True.intro
      have sz_w23 : w2.heap.size ≤ wr.heap.size := hs.size
      have nm_w23 : w1.heap.size < wr.heap.size := Blm.lt
      have Blx : Bx w23 (wr.heap.size) 29 #[.bool ge5a, .slice ae5a ne5a ce5a, .slice Ae5a Ne5a De5a] := by rw [hW]; exact (Bx.new0 _ _ _)
      have Ap_ou_x := Oou.ap (g := wr.heap.size) (by omega)
      replace hs := hs.trans hbw
      replace Blm := hG.bx Blm notMem0
      replace h1 := h1.keep hk
      replace he5a := he5a.keep hk
      replace Oou := Oou.mono PC.kept (hG.below0 (Nat.le_refl _))
      clear hW hG hk hbw
      have hz_w23 : wr.heap.size < w23.heap.size := Blx.lt
      with_reducible refine (pSub he5a h1 (SzQ.fit (HZ.out k (by omega))) (SzQ.fit sm)).mono ?_
      rintro e w24 ⟨_, rfl, h6, hb⟩
      obtain ⟨sh6, ah6, nh6, ch6, Ah6, Nh6, Ch6, rfl⟩ := h6.shape
      replace hs := bStep hs hb
      replace Blm := Blm.mono hb
      replace Blx := Blx.mono hb
      replace h1 := h1.mono hb
      replace he5a := he5a.mono hb
      replace Oou := Oou.mono PC.kept hb
      clear hb
      go_wp2_with fail
      refine Calls.abs ?_
      intro w25 hW
      have hG : Gr [] w24 w25 := by rw [hW]; exact (Gr.refl _ _).alloc
      have hbw : Below w2.heap.size w24 w25 := hG.below0 hs.size
      have hk : KeepD w24 w25 := hG.keep True.intro
      have sz_w25 : w2.heap.size ≤ w24.heap.size := hs.size
      have nm_w25 : w1.heap.size < w24.heap.size := Blm.lt
      have nx_w25 : wr.heap.size < w24.heap.size := Blx.lt
      have Bld : Bx w25 (w24.heap.size) 29 #[.bool sh6, .slice ah6 nh6 ch6, .slice Ah6 Nh6 Ch6] := by rw [hW]; exact (Bx.new0 _ _ _)
      have Ap_ou_d := Oou.ap (g := w24.heap.size) (by omega)
      replace hs := hs.trans hbw
      replace Blm := hG.bx Blm notMem0
      replace Blx := hG.bx Blx notMem0
      replace h1 := h1.keep hk
      replace he5a := he5a.keep hk
      replace h6 := h6.keep hk
      replace Oou := Oou.mono PC.kept (hG.below0 (Nat.le_refl _))
      clear hW hG hk hbw
      have hz_w25 : w24.heap.size < w25.heap.size := Bld.lt
      with_reducible refine (pMul h6 h6 (SzQ.fit (SzQ.sub (HZ.out k (by omega)) sm)) (SzQ.fit (SzQ.sub (HZ.out k (by omega)) sm))).mono ?_
      rintro e w26 ⟨_, rfl, h7, hb⟩
      obtain ⟨sh7, ah7, nh7, ch7, Ah7, Nh7, Ch7, rfl⟩ := h7.shape
      replace hs := bStep hs hb
      replace Blm := Blm.mono hb
      replace Blx := Blx.mono hb
      replace Bld := Bld.mono hb
      replace h1 := h1.mono hb
      replace he5a := he5a.mono hb
      replace h6 := h6.mono hb
      replace Oou := Oou.mono PC.kept hb
      clear hb
      go_wp2_with (at_builtin; refine wpList.stop ?_)
      refine ⟨?_⟩
      refine wpList.abs ?_
      intro w27 hW
      have hG : Gr [] w26 w27 := by rw [hW]; exact (Gr.refl _ _).alloc
      have hbw : Below w2.heap.size w26 w27 := hG.below0 hs.size
      have hk : KeepD w26 w27 := hG.keep True.intro
      have sz_w27 : w2.heap.size ≤ w26.heap.size := hs.size
      have nm_w27 : w1.heap.size < w26.heap.size := Blm.lt
      have nx_w27 : wr.heap.size < w26.heap.size := Blx.lt
      have nd_w27 : w24.heap.size < w26.heap.size := Bld.lt
      have Blls : Bx w27 (w26.heap.size) 29 #[.bool sh7, .slice ah7 nh7 ch7, .slice Ah7 Nh7 Ch7] := by rw [hW]; exact (Bx.new0 _ _ _)
      replace hs := hs.trans hbw
      replace Blm := hG.bx Blm notMem0
      replace Blx := hG.bx Blx notMem0
      replace Bld := hG.bx Bld notMem0
      replace h1 := h1.keep hk
      replace he5a := he5a.keep hk
      replace h6 := h6.keep hk
      replace h7 := h7.keep hk
      replace Oou := Oou.mono PC.kept (hG.below0 (Nat.le_refl _))
      clear hW hG hk hbw
      have hz_w27 : w26.heap.size < w27.heap.size := Blls.lt
      obtain ⟨css, ho1, ho2, ho3, hown0⟩ := Oou
      refine wpList_append_lies _ rfl _ _ _ rfl w2.heap.size 29 i0 _ 3 56 Tryz.underlying46 hi hz0 hz1 hz2 rfl (by omega) _ _ css.flatten rfl hown0 ⟨w26.heap.size, 0, none⟩ 1 1 [.bool sh7, .slice ah7 nh7 ch7, .slice Ah7 Nh7 Ch7] rfl rfl Blls.news ?_ (by omega) ?_ ?_ ?_ _ rfl ?_
      · intro u hu; simp only [List.mem_cons, List.mem_nil_iff, or_false] at hu; rcases hu with rfl | rfl | rfl <;> rfl
      · unfold maxLen; (try simp only [List.length_append, List.length_cons, List.length_nil]); omega
      · (try simp only [List.length_append, List.length_cons, List.length_nil]); omega
      · exact hs.size
      intro gou capou w28 hown1 hgrow hat hlt_
      have hk_ := KeepD.owns hown0 hgrow (by decide)
      have ho := owns_onlyT hown0 hgrow
      replace hs := hs.grown hgrow hs.size (fun k hk => (hown0.lt k hk).1)
      replace Oou := OwnR.push' PC.kept ho1 ho2 ho3 (x := (nthQ L k - m) * (nthQ L k - m)) rfl ⟨_, _, _, rfl, h7⟩ (by simp) hown1 hk_
      replace Blm := Blm.grown hgrow (fun e => by have := (hown0.lt _ e.symm).1; omega)
      have Ap_ou_x1 := Ap_ou_x.app hat Blx.lt
      replace Blx := Blx.grown hgrow Ap_ou_x.ne
      replace Ap_ou_x := Ap_ou_x1
      clear Ap_ou_x1
      have Ap_ou_d1 := Ap_ou_d.app hat Bld.lt
      replace Bld := Bld.grown hgrow Ap_ou_d.ne
      replace Ap_ou_d := Ap_ou_d1
      clear Ap_ou_d1
      replace h1 := h1.keep hk_
      replace he5a := he5a.keep hk_
      replace h6 := h6.keep hk_
      replace h7 := h7.keep hk_
      clear hk_ ho ho1 ho2 ho3 hown0 hown1 hgrow hat hlt_ Blls
      go_wp2
      go_roundw
      case rel => exact ⟨k + 1, by omega, by go_num, hs, Blm, h1, (by rw [sqK_next (show k < L.length by omega)]; exact Oou)⟩
      all_goals first | (simp [intOf]; done) | (simp [intOf]; omega)
    · have q3d : ((k : Int) < (L.length : Int)) = False := eq_false (by omega)
      obtain rfl : k = L.length := by omega
      have hR := Oou.rows
      clear Oou
      replace hs := bStep HB0_2.out hs
      go_wp2
      go_ret
      exact ⟨_, rfl, hR, hs⟩

set_option maxRecDepth 100000 in
set_option maxHeartbeats 4000000 in
theorem al_Mean {v : Value} {L : List Rat} (w : World) (hl : Rows 3 29 PC w v L) (g1 : 1 ≤ L.length) (g20 : L.length ≤ 20) (hz : ∀ i, i < L.length → SzQ 1 (nthQ L i)) {m va : Rat} (hm : meanQ L = m) (hva : varQ L = va) : Calls Tryz.prog 45 #[v] w (Ret3 (fun w v => PV w v m) (fun w v => PV w v va) (fun _ v => v = .int .i64 0) w) := by
  obtain ⟨aL, kL, rfl, hl1, hl2, -⟩ := hl.toI.slice
  have HL := Lib.hid hl
  clear hl
  have sm : SzQ (20 * 1 + 101) m := hm ▸ mean_sz hz g1 g20
  obtain ⟨S, hS⟩ : ∃ S, sqK L m L.length = S := ⟨_, rfl⟩
  have lS : S.length = L.length := by rw [← hS, sqK_len L m (Nat.le_refl _)]
  have lS1 : S.length ≤ L.length := Nat.le_of_eq lS
  have lS2 : L.length ≤ S.length := Nat.le_of_eq lS.symm
  have sS : ∀ i, i < S.length → SzQ 300 (nthQ S i) := fun i hi => hS ▸ (sqK_sz hz sm (by omega)).mono (by omega)
  have hv2 : sumQ S S.length / ((S.length : Int) : Rat) = va := by subst hva hm hS; rfl
  have sva : SzQ 7000 va := by
    have := mean_sz sS (by omega) (by omega)
    rw [show meanQ S = va from hv2] at this
    exact this.mono (by omega)
  have HZ := Lib.hid hz
  have HM := Lib.hid (show sumQ L L.length / ((L.length : Int) : Rat) = m from hm)
  have HV := Lib.hid hv2
  have HS := Lib.hid hS
  have HSZ := Lib.hid sS
  clear hz hm hva lS hS sS hv2
  have hs := Below.refl w.heap.size w
  go_enter Tryz.func45, Tryz.ntmps45
  go_wp2_with fail
  refine Calls.abs ?_
  intro w1 hW
  have hG : Gr [] w w1 := by rw [hW]; exact (Gr.refl _ _).alloc.alloc
  have hbw : Below w.heap.size w w1 := hG.below0 hs.size
  have hk : KeepD w w1 := hG.keep True.intro
  have sz_w1 : w.heap.size ≤ w.heap.size := hs.size
  have Blaverage : Bx w1 (w.heap.size) 29 #[.bool false, .slice none 0 0, .slice none 0 0] := by rw [hW]; exact ((Bx.new0 _ _ _).alloc _)
  have Blvariance : Bx w1 (w.heap.size + 1) 29 #[.bool false, .slice none 0 0, .slice none 0 0] := by rw [hW]; exact (Bx.new0 _ _ _)
  replace hs := hs.trans hbw
  clear hW hG hk hbw
  have hz_w1 : w.heap.size + 1 < w1.heap.size := Blvariance.lt
  with_reducible refine (al_cvL_in _ (HL.out.mono PC.kept hs) g1 (by omega)).mono ?_
  rintro e w2 ⟨rfl, hb⟩
  replace hs := bStep hs hb
  replace Blaverage := Blaverage.mono hb
  replace Blvariance := Blvariance.mono hb
  clear hb
  go_wp2_with fail
  with_reducible refine (al_mean _ (HL.out.mono PC.kept hs) g1 g20 (K := 1) (by decide) HZ.out HM.out).mono ?_
  rintro e w3 ⟨_, rfl, h1, hb⟩
  obtain ⟨sh1, ah1, nh1, ch1, Ah1, Nh1, Ch1, rfl⟩ := h1.shape
  replace hs := bStep hs hb
  replace Blaverage := Blaverage.mono hb
  replace Blvariance := Blvariance.mono hb
  clear hb
  go_wp2_with fail
  with_reducible refine (al_squares _ (HL.out.mono PC.kept hs) g1 g20 (K := 1) (by decide) HZ.out HM.out sm).mono ?_
  rintro e w4 ⟨_, rfl, hq2, hb⟩
  rw [HS.out] at hq2
  obtain ⟨ahq2, khq2, rfl, hq21, hq22, -⟩ := hq2.toI.slice
  replace hs := bStep hs hb
  replace Blaverage := Blaverage.mono hb
  replace Blvariance := Blvariance.mono hb
  replace h1 := h1.mono hb
  clear hb
  go_wp2_with fail
  with_reducible refine (al_mean _ hq2 (by omega) (by omega) (K := 300) (by decide) HSZ.out HV.out).mono ?_
  rintro e w5 ⟨_, rfl, h3, hb⟩
  obtain ⟨sh3, ah3, nh3, ch3, Ah3, Nh3, Ch3, rfl⟩ := h3.shape
  replace hs := bStep hs hb
  replace Blaverage := Blaverage.mono hb
  replace Blvariance := Blvariance.mono hb
  replace h1 := h1.mono hb
  replace hq2 := rowsJ PC.kept _ _ _ hq2 hb
  clear hb
  have caverage_0 : w5.cell? ⟨w.heap.size, 0, none⟩ = some (.bool false) := Blaverage.at 0 rfl
  have caverage_1 : w5.cell? ⟨w.heap.size, 1, none⟩ = some (.slice none 0 0) := Blaverage.at 1 rfl
  have caverage_2 : w5.cell? ⟨w.heap.size, 2, none⟩ = some (.slice none 0 0) := Blaverage.at 2 rfl
  have faverage := Blaverage.free
  have Laverage : w.heap.size < w5.heap.size := Blaverage.lt
  have cvariance_0 : w5.cell? ⟨w.heap.size + 1, 0, none⟩ = some (.bool false) := Blvariance.at 0 rfl
  have cvariance_1 : w5.cell? ⟨w.heap.size + 1, 1, none⟩ = some (.slice none 0 0) := Blvariance.at 1 rfl
  have cvariance_2 : w5.cell? ⟨w.heap.size + 1, 2, none⟩ = some (.slice none 0 0) := Blvariance.at 2 rfl
  have fvariance := Blvariance.free
  have Lvariance : w.heap.size + 1 < w5.heap.size := Blvariance.lt
  go_wp2
  clear caverage_0 caverage_1 caverage_2 cvariance_0 cvariance_1 cvariance_2 faverage fvariance Laverage Lvariance
  clear hq2
  refine bodyPost.abs ?_
  intro w6 hW
  have hG : Gr [w.heap.size, w.heap.size + 1] w5 w6 := by rw [hW]; exact (Gr.refl _ _).set.set.set.set.set.set
  have hsz := hs.size
  have laverage := Blaverage.lt
  have lvariance := Blvariance.lt
  have hbw : Below w.heap.size w5 w6 := hG.below2 hs.size (by first | omega | assumption) (by first | omega | assumption)
  have hk : KeepD w5 w6 := hG.keep ⟨⟨_, Blaverage.ty, by decide⟩, ⟨_, Blvariance.ty, by decide⟩, True.intro⟩
  have Bl1average : Bx w6 (w.heap.size) 29 #[.bool sh1, .slice ah1 nh1 ch1, .slice Ah1 Nh1 Ch1] := by rw [hW]; exact (Bx.far (Bx.far (Bx.far (Bx.set (Bx.set (Bx.set Blaverage 0 _ rfl) 1 _ rfl) 2 _ rfl) (by dsimp only; omega) _) (by dsimp only; omega) _) (by dsimp only; omega) _)
  have Bl1variance : Bx w6 (w.heap.size + 1) 29 #[.bool sh3, .slice ah3 nh3 ch3, .slice Ah3 Nh3 Ch3] := by rw [hW]; exact (Bx.set (Bx.set (Bx.set (Bx.far (Bx.far (Bx.far Blvariance (by dsimp only; omega) _) (by dsimp only; omega) _) (by dsimp only; omega) _) 0 _ rfl) 1 _ rfl) 2 _ rfl)
  replace hs := hs.trans hbw
  replace Blaverage := Bl1average
  clear Bl1average
  replace Blvariance := Bl1variance
  clear Bl1variance
  replace h1 := h1.keep hk
  replace h3 := h3.keep hk
  clear hW hG hk hbw hsz laverage lvariance
  have caverage_0 : w6.cell? ⟨w.heap.size, 0, none⟩ = some (.bool sh1) := Blaverage.at 0 rfl
  have caverage_1 : w6.cell? ⟨w.heap.size, 1, none⟩ = some (.slice ah1 nh1 ch1) := Blaverage.at 1 rfl
  have caverage_2 : w6.cell? ⟨w.heap.size, 2, none⟩ = some (.slice Ah1 Nh1 Ch1) := Blaverage.at 2 rfl
  have cvariance_0 : w6.cell? ⟨w.heap.size + 1, 0, none⟩ = some (.bool sh3) := Blvariance.at 0 rfl
  have cvariance_1 : w6.cell? ⟨w.heap.size + 1, 1, none⟩ = some (.slice ah3 nh3 ch3) := Blvariance.at 1 rfl
  have cvariance_2 : w6.cell? ⟨w.heap.size + 1, 2, none⟩ = some (.slice Ah3 Nh3 Ch3) := Blvariance.at 2 rfl
  exact bodyPost_ret (v := .tuple #[.agg #[.bool sh1, .slice ah1 nh1 ch1, .slice Ah1 Nh1 Ch1], .agg #[.bool sh3, .slice ah3 nh3 ch3, .slice Ah3 Nh3 Ch3], .int .i64 0]) (by simp [results, Tryz.results45, go_sem, caverage_0, caverage_1, caverage_2, cvariance_0, cvariance_1, cvariance_2]) rfl ⟨_, _, _, rfl, h1, h3, rfl, hs⟩

set_option maxRecDepth 100000 in
theorem al_sorted {v : Value} {L : List Rat} (w : World) (hl : Rows 3 29 PC w v L) (g1 : 1 ≤ L.length) (g2 : L.length ≤ 1000) (hz : ∀ i, i < L.length → SzQ 100000 (nthQ L i)) : Calls Tryz.prog 110 #[v] w (Ret1 (fun w v => Rows 3 29 PC w v (srtQ L)) w) := by
  have HZ := Lib.hid hz
  clear hz
  obtain ⟨bhl, ohl, khl, rfl, hl1, hl2, -⟩ := hl.open_ (by omega)
  have hs := Below.refl w.heap.size w
  go_enter Tryz.func110, Tryz.ntmps110
  go_wp2_with fail
  with_reducible refine (sl_CloneQ _ hl g1 g2).mono ?_
  rintro e w1 ⟨v1, rfl, hO, hb⟩
  replace hs := bStep hs hb
  clear hb hl
  go_wp2_with fail
  with_reducible refine (sl_SortQ _ hO g1 g2 HZ.out).mono ?_
  rintro e w2 ⟨rfl, hO2, hb⟩
  replace hs := hs.trans hb
  clear hb hO
  have hR := hO2.rows
  clear hO2
  go_wp2
  go_ret
  exact ⟨_, rfl, hR, hs⟩


set_option maxRecDepth 100000 in
set_option maxHeartbeats 4000000 in
theorem al_Limit_rank {v vu vc : Value} {L : List Rat} {u c : Rat} (w : World) (hl : Rows 3 29 PC w v L) (hu : PV w vu u) (su : SzQ 1 u) (hc : PV w vc c) (sc : SzQ 1 c) (g1 : 1 ≤ L.length) (g20 : L.length ≤ 64) {E : Int} (hE : rkEr L.length u c = E) (hn : ¬ E = 0) : Calls Tryz.prog 44 #[v, vu, vc] w (RetPE w 0 E) := by
  obtain ⟨aL, kL, rfl, hl1, hl2, -⟩ := hl.toI.slice
  have HL := Lib.hid hl
  clear hl
  obtain ⟨shu, ahu, nhu, chu, Ahu, Nhu, Chu, rfl⟩ := hu.shape
  obtain ⟨shc, ahc, nhc, chc, Ahc, Nhc, Chc, rfl⟩ := hc.shape
  have HE := Lib.hid hE
  have HNE := Lib.hid hn
  clear hE hn
  obtain ⟨r, hr⟩ : ∃ r : Int, rkV L.length u c = r := ⟨_, rfl⟩
  have HR := Lib.hid hr
  clear hr
  have hs := Below.refl w.heap.size w
  go_enter Tryz.func44, Tryz.ntmps44
  go_wp2_with fail
  refine Calls.abs ?_
  intro w1 hW
  have hG : Gr [] w w1 := by rw [hW]; exact (Gr.refl _ _).alloc.alloc.alloc
  have hbw : Below w.heap.size w w1 := hG.below0 hs.size
  have hk : KeepD w w1 := hG.keep True.intro
  have sz_w1 : w.heap.size ≤ w.heap.size := hs.size
  have Blshare : Bx w1 (w.heap.size) 29 #[.bool shu, .slice ahu nhu chu, .slice Ahu Nhu Chu] := by rw [hW]; exact (((Bx.new0 _ _ _).alloc _).alloc _)
  have Blconfidence : Bx w1 (w.heap.size + 1) 29 #[.bool shc, .slice ahc nhc chc, .slice Ahc Nhc Chc] := by rw [hW]; exact ((Bx.new0 _ _ _).alloc _)
  have Blk : Bx w1 (w.heap.size + 1 + 1) 29 #[.bool false, .slice none 0 0, .slice none 0 0] := by rw [hW]; exact (Bx.new0 _ _ _)
  replace hs := hs.trans hbw
  replace hu := hu.keep hk
  replace hc := hc.keep hk
  clear hW hG hk hbw
  have hz_w1 : w.heap.size + 1 + 1 < w1.heap.size := Blk.lt
  with_reducible refine (al_cvL_all (e := 0) _ (HL.out.mono PC.kept hs) (if_neg (by omega))).mono ?_
  rintro e w2 ⟨rfl, hb⟩
  replace hs := bStep hs hb
  replace Blshare := Blshare.mono hb
  replace Blconfidence := Blconfidence.mono hb
  replace Blk := Blk.mono hb
  replace hu := hu.mono hb
  replace hc := hc.mono hb
  clear hb
  have cshare_0 : w2.cell? ⟨w.heap.size, 0, none⟩ = some (.bool shu) := Blshare.at 0 rfl
  have cshare_1 : w2.cell? ⟨w.heap.size, 1, none⟩ = some (.slice ahu nhu chu) := Blshare.at 1 rfl
  have cshare_2 : w2.cell? ⟨w.heap.size, 2, none⟩ = some (.slice Ahu Nhu Chu) := Blshare.at 2 rfl
  have Lshare : w.heap.size < w2.heap.size := Blshare.lt
  have cconfidence_0 : w2.cell? ⟨w.heap.size + 1, 0, none⟩ = some (.bool shc) := Blconfidence.at 0 rfl
  have cconfidence_1 : w2.cell? ⟨w.heap.size + 1, 1, none⟩ = some (.slice ahc nhc chc) := Blconfidence.at 1 rfl
  have cconfidence_2 : w2.cell? ⟨w.heap.size + 1, 2, none⟩ = some (.slice Ahc Nhc Chc) := Blconfidence.at 2 rfl
  have Lconfidence : w.heap.size + 1 < w2.heap.size := Blconfidence.lt
  go_wp2_with fail
  clear cshare_0 cshare_1 cshare_2 cconfidence_0 cconfidence_1 cconfidence_2 Lshare Lconfidence
  with_reducible refine (al_Rank_all _ hu su hc sc HR.out HE.out).mono ?_
  rintro e w3 ⟨rfl, hb⟩
  replace hs := bStep hs hb
  replace Blshare := Blshare.mono hb
  replace Blconfidence := Blconfidence.mono hb
  replace Blk := Blk.mono hb
  replace hu := hu.mono hb
  replace hc := hc.mono hb
  clear hb
  have q1 : ¬ (E = 0) := HNE.out
  have q1b : (E == 0) = false := beq_eq_false_iff_ne.2 (by omega)
  have q1n : (E != 0) = true := bne_iff_ne.2 (by omega)
  have q1H := Lib.hid q1
  clear q1
  have ck_0 : w3.cell? ⟨w.heap.size + 1 + 1, 0, none⟩ = some (.bool false) := Blk.at 0 rfl
  have ck_1 : w3.cell? ⟨w.heap.size + 1 + 1, 1, none⟩ = some (.slice none 0 0) := Blk.at 1 rfl
  have ck_2 : w3.cell? ⟨w.heap.size + 1 + 1, 2, none⟩ = some (.slice none 0 0) := Blk.at 2 rfl
  have fk := Blk.free
  have Lk : w.heap.size + 1 + 1 < w3.heap.size := Blk.lt
  go_wp2
  clear ck_0 ck_1 ck_2 fk Lk
  refine bodyPost.abs ?_
  intro w4 hW
  have hG : Gr [w.heap.size + 1 + 1] w3 w4 := by rw [hW]; exact (Gr.refl _ _).set.set.set
  have hsz := hs.size
  have lk := Blk.lt
  have hbw : Below w.heap.size w3 w4 := hG.below1 hs.size (by first | omega | assumption)
  have hk : KeepD w3 w4 := hG.keep ⟨⟨_, Blk.ty, by decide⟩, True.intro⟩
  have Bl1k : Bx w4 (w.heap.size + 1 + 1) 29 #[.bool false, .slice none 0 0, .slice none 0 0] := by rw [hW]; exact Blk.set3
  replace hs := hs.trans hbw
  replace Blshare := hG.bx Blshare (notMem1 (by omega))
  replace Blconfidence := hG.bx Blconfidence (notMem1 (by omega))
  replace Blk := Bl1k
  clear Bl1k
  replace hu := hu.keep hk
  replace hc := hc.keep hk
  clear hW hG hk hbw hsz lk
  have ck_0 : w4.cell? ⟨w.heap.size + 1 + 1, 0, none⟩ = some (.bool false) := Blk.at 0 rfl
  have ck_1 : w4.cell? ⟨w.heap.size + 1 + 1, 1, none⟩ = some (.slice none 0 0) := Blk.at 1 rfl
  have ck_2 : w4.cell? ⟨w.heap.size + 1 + 1, 2, none⟩ = some (.slice none 0 0) := Blk.at 2 rfl
  exact bodyPost_ret (v := .tuple #[.agg #[.bool false, .slice none 0 0, .slice none 0 0], .int .i64 E]) (by simp [results, Tryz.results44, go_sem, ck_0, ck_1, ck_2]) rfl ⟨_, rfl, (PV.zero _), hs⟩

set_option maxRecDepth 100000 in
set_option maxHeartbeats 4000000 in
theorem al_Limit_ok {v vu vc : Value} {L : List Rat} {u c : Rat} (w : World) (hl : Rows 3 29 PC w v L) (hu : PV w vu u) (su : SzQ 1 u) (hc : PV w vc c) (sc : SzQ 1 c) (g1 : 1 ≤ L.length) (g20 : L.length ≤ 64) (hE : rkEr L.length u c = 0) {r : Nat} (hr : rkV L.length u c = (r : Int)) (hz : ∀ i, i < L.length → SzQ 100000 (nthQ L i)) {q : Rat} (hq : ordQ L (r - 1) = q) : Calls Tryz.prog 44 #[v, vu, vc] w (RetPE w q 0) := by
  obtain ⟨aL, kL, rfl, hl1, hl2, -⟩ := hl.toI.slice
  have HL := Lib.hid hl
  clear hl
  obtain ⟨shu, ahu, nhu, chu, Ahu, Nhu, Chu, rfl⟩ := hu.shape
  obtain ⟨shc, ahc, nhc, chc, Ahc, Nhc, Chc, rfl⟩ := hc.shape
  obtain ⟨r1, r2⟩ := rk_range g1 g20 hE hr
  obtain ⟨S, hS⟩ : ∃ S, srtQ L = S := ⟨_, rfl⟩
  have lS1 : S.length ≤ L.length := by rw [← hS, srtQ_len]; exact Nat.le_refl _
  have lS2 : L.length ≤ S.length := by rw [← hS, srtQ_len]; exact Nat.le_refl _
  have HSZ := Lib.hid (show ∀ i, i < S.length → SzQ 100000 (nthQ S i) from fun i hi => hS ▸ srt_sz hz (hS.symm ▸ hi))
  have HS := Lib.hid hS
  have HE := Lib.hid hE
  have HR := Lib.hid hr
  have HZL := Lib.hid hz
  have HQ := Lib.hid hq
  clear hS hE hr hz hq
  have hs := Below.refl w.heap.size w
  go_enter Tryz.func44, Tryz.ntmps44
  go_wp2_with fail
  refine Calls.abs ?_
  intro w1 hW
  have hG : Gr [] w w1 := by rw [hW]; exact (Gr.refl _ _).alloc.alloc.alloc
  have hbw : Below w.heap.size w w1 := hG.below0 hs.size
  have hk : KeepD w w1 := hG.keep True.intro
  have sz_w1 : w.heap.size ≤ w.heap.size := hs.size
  have Blshare : Bx w1 (w.heap.size) 29 #[.bool shu, .slice ahu nhu chu, .slice Ahu Nhu Chu] := by rw [hW]; exact (((Bx.new0 _ _ _).alloc _).alloc _)
  have Blconfidence : Bx w1 (w.heap.size + 1) 29 #[.bool shc, .slice ahc nhc chc, .slice Ahc Nhc Chc] := by rw [hW]; exact ((Bx.new0 _ _ _).alloc _)
  have Blk : Bx w1 (w.heap.size + 1 + 1) 29 #[.bool false, .slice none 0 0, .slice none 0 0] := by rw [hW]; exact (Bx.new0 _ _ _)
  replace hs := hs.trans hbw
  replace hu := hu.keep hk
  replace hc := hc.keep hk
  clear hW hG hk hbw
  have hz_w1 : w.heap.size + 1 + 1 < w1.heap.size := Blk.lt
  with_reducible refine (al_cvL_all (e := 0) _ (HL.out.mono PC.kept hs) (if_neg (by omega))).mono ?_
  rintro e w2 ⟨rfl, hb⟩
  replace hs := bStep hs hb
  replace Blshare := Blshare.mono hb
  replace Blconfidence := Blconfidence.mono hb
  replace Blk := Blk.mono hb
  replace hu := hu.mono hb
  replace hc := hc.mono hb
  clear hb
  have cshare_0 : w2.cell? ⟨w.heap.size, 0, none⟩ = some (.bool shu) := Blshare.at 0 rfl
  have cshare_1 : w2.cell? ⟨w.heap.size, 1, none⟩ = some (.slice ahu nhu chu) := Blshare.at 1 rfl
  have cshare_2 : w2.cell? ⟨w.heap.size, 2, none⟩ = some (.slice Ahu Nhu Chu) := Blshare.at 2 rfl
  have Lshare : w.heap.size < w2.heap.size := Blshare.lt
  have cconfidence_0 : w2.cell? ⟨w.heap.size + 1, 0, none⟩ = some (.bool shc) := Blconfidence.at 0 rfl
  have cconfidence_1 : w2.cell? ⟨w.heap.size + 1, 1, none⟩ = some (.slice ahc nhc chc) := Blconfidence.at 1 rfl
  have cconfidence_2 : w2.cell? ⟨w.heap.size + 1, 2, none⟩ = some (.slice Ahc Nhc Chc) := Blconfidence.at 2 rfl
  have Lconfidence : w.heap.size + 1 < w2.heap.size := Blconfidence.lt
  go_wp2_with fail
  clear cshare_0 cshare_1 cshare_2 cconfidence_0 cconfidence_1 cconfidence_2 Lshare Lconfidence
  with_reducible refine (al_Rank_all _ hu su hc sc HR.out HE.out).mono ?_
  rintro e w3 ⟨rfl, hb⟩
  replace hs := bStep hs hb
  replace Blshare := Blshare.mono hb
  replace Blconfidence := Blconfidence.mono hb
  replace Blk := Blk.mono hb
  replace hu := hu.mono hb
  replace hc := hc.mono hb
  clear hb
  go_wp2_with fail
  with_reducible refine (al_sorted _ (HL.out.mono PC.kept hs) g1 (by omega) HZL.out).mono ?_
  rintro e w4 ⟨_, rfl, hS1, hb⟩
  rw [HS.out] at hS1
  obtain ⟨bhS1, ohS1, khS1, rfl, hS11, hS12, -⟩ := hS1.open_ (by omega)
  replace hs := bStep hs hb
  replace Blshare := Blshare.mono hb
  replace Blconfidence := Blconfidence.mono hb
  replace Blk := Blk.mono hb
  replace hu := hu.mono hb
  replace hc := hc.mono hb
  clear hb
  have SW2a := IntWalk.i64_in ((r : Int) - 1) (by omega)
  have SW2b : (0 : Int) ≤ (r : Int) - 1 := by omega
  have SW2c : ((r : Int) - 1).toNat = (r - 1) := by omega
  have SW2d : (r : Int) - 1 < (S.length : Int) := by omega
  have SW2e : (1 : Int) ≤ (r : Int) := by omega
  have SW2f : (r : Int) < (S.length : Int) + 1 := by omega
  have BI3a : (r - 1) < S.length := by omega
  have BI3b : ((r : Int) - 1 : Int) < (S.length : Int) := by omega
  obtain ⟨ge4a, ae4a, ne4a, ce4a, Ae4a, Ne4a, De4a, Ee40, Ee41, Ee42, he4a, le4⟩ := rowP_at hS1 (show (r - 1) < S.length by omega)
  have ck_0 : w4.cell? ⟨w.heap.size + 1 + 1, 0, none⟩ = some (.bool false) := Blk.at 0 rfl
  have ck_1 : w4.cell? ⟨w.heap.size + 1 + 1, 1, none⟩ = some (.slice none 0 0) := Blk.at 1 rfl
  have ck_2 : w4.cell? ⟨w.heap.size + 1 + 1, 2, none⟩ = some (.slice none 0 0) := Blk.at 2 rfl
  have fk := Blk.free
  have Lk : w.heap.size + 1 + 1 < w4.heap.size := Blk.lt
  go_wp2
  clear ck_0 ck_1 ck_2 fk Lk le4 Ee40 Ee41 Ee42
  clear hS1
  refine bodyPost.abs ?_
  intro w5 hW
  have hG : Gr [w.heap.size + 1 + 1] w4 w5 := by rw [hW]; exact (Gr.refl _ _).set.set.set
  have hsz := hs.size
  have lk := Blk.lt
  have hbw : Below w.heap.size w4 w5 := hG.below1 hs.size (by first | omega | assumption)
  have hk : KeepD w4 w5 := hG.keep ⟨⟨_, Blk.ty, by decide⟩, True.intro⟩
  have Bl1k : Bx w5 (w.heap.size + 1 + 1) 29 #[.bool ge4a, .slice ae4a ne4a ce4a, .slice Ae4a Ne4a De4a] := by rw [hW]; exact Blk.set3
  replace hs := hs.trans hbw
  replace Blshare := hG.bx Blshare (notMem1 (by omega))
  replace Blconfidence := hG.bx Blconfidence (notMem1 (by omega))
  replace Blk := Bl1k
  clear Bl1k
  replace hu := hu.keep hk
  replace hc := hc.keep hk
  replace he4a := he4a.keep hk
  clear hW hG hk hbw hsz lk
  have ck_0 : w5.cell? ⟨w.heap.size + 1 + 1, 0, none⟩ = some (.bool ge4a) := Blk.at 0 rfl
  have ck_1 : w5.cell? ⟨w.heap.size + 1 + 1, 1, none⟩ = some (.slice ae4a ne4a ce4a) := Blk.at 1 rfl
  have ck_2 : w5.cell? ⟨w.heap.size + 1 + 1, 2, none⟩ = some (.slice Ae4a Ne4a De4a) := Blk.at 2 rfl
  exact bodyPost_ret (v := .tuple #[.agg #[.bool ge4a, .slice ae4a ne4a ce4a, .slice Ae4a Ne4a De4a], .int .i64 0]) (by simp [results, Tryz.results44, go_sem, ck_0, ck_1, ck_2]) rfl ⟨_, rfl, he4a.of_eq (by rw [← HS.out]; exact HQ.out), hs⟩

end Go.Proofs.YtmnipggjjcmjkaaGreat
/-
  The allowable of values in another order, of values that are moved, of a value that grows; the variance: plain lists. No function of the program is walked here.
-/
namespace Go.Proofs.YtmnipggjjcmjkaaGreat
open Go.RowKit Dg

theorem sumQ_nonneg {S : List Rat} : ∀ k, (∀ i, i < k → 0 ≤ nthQ S i) → 0 ≤ sumQ S k ∧ (sumQ S k = 0 → ∀ i, i < k → nthQ S i = 0)
  | 0, _ => ⟨Rat.le_refl, fun _ i h => by omega⟩
  | k + 1, h => by
    obtain ⟨h1, h2⟩ := sumQ_nonneg k (fun i hi => h i (by omega))
    have h3 := h k (by omega)
    refine ⟨?_, fun e i hi => ?_⟩
    · show 0 ≤ sumQ S k + nthQ S k
      grind
    · have e' : sumQ S k + nthQ S k = 0 := e
      by_cases c : i = k
      · subst c; grind
      · exact h2 (by grind) i (by omega)
theorem sumQ_const {S : List Rat} {c : Rat} : ∀ k : Nat, (∀ i, i < k → nthQ S i = c) → sumQ S k = ((k : Int) : Rat) * c
  | 0, _ => by show (0 : Rat) = ((0 : Int) : Rat) * c; grind
  | k + 1, h => by
    show sumQ S k + nthQ S k = _
    rw [sumQ_const k (fun i hi => h i (by omega)), h k (by omega)]
    have : (((k + 1 : Nat) : Int) : Rat) = ((k : Int) : Rat) + 1 := by push_cast; rfl
    rw [this]
    grind
theorem sq_nonneg (x : Rat) : 0 ≤ x * x := by
  rcases Rat.le_total (a := 0) (b := x) with h | h
  · exact Rat.mul_nonneg h h
  · have := Rat.mul_nonneg (show 0 ≤ -x by grind) (show 0 ≤ -x by grind)
    grind
theorem len_pos {L : List Rat} (h1 : 1 ≤ L.length) : 0 < ((L.length : Int) : Rat) := by
  have : (0 : Int) < L.length := by omega
  exact_mod_cast this
theorem varQ_facts {L : List Rat} (h1 : 1 ≤ L.length) : 0 ≤ varQ L ∧ (varQ L = 0 ↔ ∀ i, i < L.length → nthQ L i = nthQ L 0) := by
  have hn := len_pos h1
  have hl := sqK_len L (meanQ L) (Nat.le_refl L.length)
  have hS : ∀ i, i < L.length → 0 ≤ nthQ (sqK L (meanQ L) L.length) i := fun i hi => by rw [sqK_at hi]; exact sq_nonneg _
  obtain ⟨a, b⟩ := sumQ_nonneg L.length hS
  have hv : varQ L = sumQ (sqK L (meanQ L) L.length) L.length / ((L.length : Int) : Rat) := by unfold varQ; unfold meanQ; rw [show (sqK L (sumQ L L.length / ((L.length : Int) : Rat)) L.length).length = L.length from hl]
  have hv2 : varQ L * ((L.length : Int) : Rat) = sumQ (sqK L (meanQ L) L.length) L.length := by rw [hv]; exact Rat.div_mul_cancel (len_ne h1)
  refine ⟨?_, fun e i hi => ?_, fun h => ?_⟩
  · rw [hv]
    exact (le_divQ hn).2 (by rw [Rat.zero_mul]; exact a)
  · have e0 : sumQ (sqK L (meanQ L) L.length) L.length = 0 := by rw [← hv2, e, Rat.zero_mul]
    have z : ∀ j, j < L.length → nthQ L j = meanQ L := fun j hj => by
      have := b e0 j hj
      rw [sqK_at hj] at this
      rcases Rat.mul_eq_zero.1 this with h | h <;> grind
    rw [z i hi, z 0 (by omega)]
  · have m : meanQ L = nthQ L 0 := by
      unfold meanQ
      rw [sumQ_const L.length h]
      have := Rat.mul_div_cancel (b := ((L.length : Int) : Rat)) (a := nthQ L 0) (len_ne h1)
      rw [Rat.mul_comm]; exact this
    have z : sumQ (sqK L (meanQ L) L.length) L.length = ((L.length : Int) : Rat) * 0 := sumQ_const L.length (fun i hi => by rw [sqK_at hi, h i hi, m]; grind)
    rw [hv, z, Rat.mul_zero, Rat.div_def, Rat.zero_mul]
/-- All of the first k are equal to the first. -/
def eqK (A : List Rat) (k : Nat) : Bool := (List.range k).all fun i => decide (nthQ A i = nthQ A 0)
theorem eqK_next (A : List Rat) (k : Nat) : eqK A (k + 1) = (eqK A k && decide (nthQ A k = nthQ A 0)) := by unfold eqK; rw [List.range_succ, List.all_append]; simp
theorem eqK_T {A : List Rat} {k : Nat} (h : eqK A k = true) (e : nthQ A k = nthQ A 0) : true = eqK A (k + 1) := by rw [eqK_next, h, decide_eq_true e]; rfl
theorem eqK_F1 {A : List Rat} {k : Nat} (h : ¬ eqK A k = true) : false = eqK A (k + 1) := by rw [eqK_next, Bool.eq_false_iff.2 h]; rfl
theorem eqK_F2 {A : List Rat} {k : Nat} (e : ¬ nthQ A k = nthQ A 0) : false = eqK A (k + 1) := by rw [eqK_next, decide_eq_false e, Bool.and_false]
theorem eqK_var {A : List Rat} (h1 : 1 ≤ A.length) : decide (varQ A = 0) = eqK A A.length := by
  rw [Bool.eq_iff_iff]
  rw [decide_eq_true_iff, (varQ_facts h1).2]
  unfold eqK
  simp
/-- One of the first k is x. -/
def anK (A : List Rat) (x : Rat) (k : Nat) : Bool := (List.range k).any fun i => decide (nthQ A i = x)
theorem anK_next (A : List Rat) (x : Rat) (k : Nat) : anK A x (k + 1) = (anK A x k || decide (nthQ A k = x)) := by unfold anK; rw [List.range_succ, List.any_append]; simp
theorem anK_T1 {A : List Rat} {x : Rat} {k : Nat} (h : anK A x k = true) : true = anK A x (k + 1) := by rw [anK_next, h]; rfl
theorem anK_T2 {A : List Rat} {x : Rat} {k : Nat} (e : nthQ A k = x) : true = anK A x (k + 1) := by rw [anK_next, decide_eq_true e, Bool.or_true]
theorem anK_F {A : List Rat} {x : Rat} {k : Nat} (h : ¬ anK A x k = true) (e : ¬ nthQ A k = x) : false = anK A x (k + 1) := by rw [anK_next, Bool.eq_false_iff.2 h, decide_eq_false e]; rfl
theorem anK_all {A : List Rat} {x : Rat} (h : x ∈ A) : anK A x A.length = true := by
  obtain ⟨i, hi, e⟩ := List.getElem_of_mem h
  unfold anK
  rw [List.any_eq_true]
  refine ⟨i, List.mem_range.2 hi, decide_eq_true ?_⟩
  have := nthQ_some hi
  rw [List.getElem?_eq_getElem hi] at this
  injection this with this
  rw [← this, e]
/-- The values moved. -/
def mvK (A : List Rat) (t b : Rat) (k : Nat) : List Rat := (A.take k).map fun x => x * t + b
theorem mvK_len (A : List Rat) (t b : Rat) {k : Nat} (h : k ≤ A.length) : (mvK A t b k).length = k := by unfold mvK; rw [List.length_map, List.length_take]; omega
theorem mvK_next {A : List Rat} {t b : Rat} {k : Nat} (h : k < A.length) : mvK A t b (k + 1) = mvK A t b k ++ [nthQ A k * t + b] := by
  unfold mvK
  rw [List.take_add_one, nthQ_some h, List.map_append]
  rfl
theorem mvK_all (A : List Rat) (t b : Rat) : mvK A t b A.length = A.map fun x => x * t + b := by unfold mvK; rw [List.take_length]
/-- Limit of these values answers q. -/
def LimOk (L : List Rat) (u c q : Rat) : Prop := 1 ≤ L.length ∧ L.length ≤ 64 ∧ rkEr L.length u c = 0 ∧ (∃ r : Nat, rkV L.length u c = (r : Int) ∧ ordQ L (r - 1) = q) ∧ ∀ i, i < L.length → SzQ 100000 (nthQ L i)
theorem LimOk.any {L : List Rat} {u c : Rat} (h1 : 1 ≤ L.length) (h2 : L.length ≤ 64) (hE : rkEr L.length u c = 0) (hz : ∀ i, i < L.length → SzQ 100000 (nthQ L i)) : ∃ r : Nat, (rkV L.length u c = (r : Int) ∧ r - 1 < L.length) ∧ LimOk L u c (ordQ L (r - 1)) := by
  have h0 : ∃ r : Nat, rkV L.length u c = (r : Int) := by
    unfold rkV
    split
    · exact ⟨0, rfl⟩
    · exact ⟨_, rfl⟩
  obtain ⟨r, hr⟩ := h0
  have := rk_range h1 h2 hE hr
  exact ⟨r, ⟨hr, by omega⟩, h1, h2, hE, ⟨r, hr, rfl⟩, hz⟩
end Go.Proofs.YtmnipggjjcmjkaaGreat
