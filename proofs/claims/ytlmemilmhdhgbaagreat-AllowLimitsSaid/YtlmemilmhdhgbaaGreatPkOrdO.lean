/-
  Mean and variance, the place of the allowable: plain lists. slices.Clone at fractions, by the shelf's contract.
-/
import Derived.Test.YtlmemilmhdhgbaaGreatSortQO
import Derived.Test.YtlmemilmhdhgbaaGreatAlT1O
set_option linter.unusedSimpArgs false
set_option linter.unusedVariables false
set_option maxRecDepth 100000
set_option maxHeartbeats 4000000
namespace Go.Proofs.YtlmemilmhdhgbaaGreat
open Go.RowKit Dg
def sumQ (L : List Rat) : Nat → Rat
  | 0 => 0
  | k + 1 => sumQ L k + nthQ L k
theorem sumQ_sz' {L : List Rat} {K : Nat} (hz : ∀ i, i < L.length → SzQ K (nthQ L i)) : ∀ k, k ≤ L.length → SzQ (k * (K + 1) + 1) (sumQ L k)
  | 0, _ => szQ_zero.mono (by omega)
  | k + 1, h => ((sumQ_sz' hz k (by omega)).add (hz k (by omega))).mono (by rw [Nat.add_mul]; omega)
theorem sumQ_sz {L : List Rat} {K : Nat} (hz : ∀ i, i < L.length → SzQ K (nthQ L i)) (h20 : L.length ≤ 20) (k : Nat) (hk : k ≤ L.length) : SzQ (20 * K + 100) (sumQ L k) :=
  (sumQ_sz' hz k hk).mono (by have := Nat.mul_le_mul_right (K + 1) (show k ≤ 20 by omega); omega)
def meanQ (L : List Rat) : Rat := sumQ L L.length / ((L.length : Int) : Rat)
theorem len_ne {L : List Rat} (h1 : 1 ≤ L.length) : ((L.length : Int) : Rat) ≠ 0 := fun e => by
  have : (L.length : Int) = 0 := (by exact_mod_cast e); omega
theorem mean_sz {L : List Rat} {K : Nat} (hz : ∀ i, i < L.length → SzQ K (nthQ L i)) (h1 : 1 ≤ L.length) (h20 : L.length ≤ 20) : SzQ (20 * K + 101) (meanQ L) :=
  ((sumQ_sz hz h20 L.length (Nat.le_refl _)).div (szQ_int (by omega)) (len_ne h1)).mono (by omega)
def sqK (L : List Rat) (m : Rat) (k : Nat) : List Rat := (L.take k).map fun x => (x - m) * (x - m)
theorem sqK_len (L : List Rat) (m : Rat) {k : Nat} (h : k ≤ L.length) : (sqK L m k).length = k := by unfold sqK; rw [List.length_map, List.length_take]; omega
theorem sqK_next {L : List Rat} {m : Rat} {k : Nat} (h : k < L.length) : sqK L m (k + 1) = sqK L m k ++ [(nthQ L k - m) * (nthQ L k - m)] := by
  unfold sqK
  rw [List.take_add_one, nthQ_some h, List.map_append]
  rfl
theorem sqK_at {L : List Rat} {m : Rat} {i : Nat} (h : i < L.length) : nthQ (sqK L m L.length) i = (nthQ L i - m) * (nthQ L i - m) := by
  unfold sqK
  rw [List.take_length]
  have : (L.map fun x => (x - m) * (x - m))[i]? = some ((nthQ L i - m) * (nthQ L i - m)) := by rw [List.getElem?_map, nthQ_some h]; rfl
  unfold nthQ at *
  rw [List.getD_eq_getElem?_getD, this]; rfl
theorem sqK_sz {L : List Rat} {K M : Nat} {m : Rat} (hz : ∀ i, i < L.length → SzQ K (nthQ L i)) (sm : SzQ M m) {i : Nat} (h : i < L.length) : SzQ ((K + M + 1) + (K + M + 1)) (nthQ (sqK L m L.length) i) := by
  rw [sqK_at h]
  exact ((hz i h).sub sm).mul ((hz i h).sub sm)
def varQ (L : List Rat) : Rat := meanQ (sqK L (meanQ L) L.length)
theorem al_wholeN {l : Nat} {n : Rat} (hn : ((l : Int) : Rat) = n) (w : World) (h : l ≤ 4294967295) : Calls Tryz.prog 35 #[.int .i64 (l : Int)] w (RetP w n) := hn ▸ al_whole (l : Int) w (by omega) (by omega)
theorem srt_sz {L : List Rat} {K : Nat} (hz : ∀ i, i < L.length → SzQ K (nthQ L i)) {i : Nat} (h : i < (srtQ L).length) : SzQ K (nthQ (srtQ L) i) := by
  have hm := (srtQ_perm L).mem_iff.1 (List.mem_of_getElem? (nthQ_some h))
  obtain ⟨j, hj, e⟩ := List.getElem_of_mem hm
  have h2 := hz j hj
  have h3 := nthQ_some hj
  rw [List.getElem?_eq_getElem hj] at h3
  injection h3 with h3
  rw [← h3, e] at h2
  exact h2
theorem rk_range {L : List Rat} {u c : Rat} {r : Nat} (h1 : 1 ≤ L.length) (h20 : L.length ≤ 64) (hE : rkEr L.length u c = 0) (hr : rkV L.length u c = (r : Int)) : 1 ≤ r ∧ r ≤ L.length := by
  unfold rkEr at hE
  unfold rkV at hr
  by_cases h : rkWrong L.length u c
  · rw [if_pos h] at hE; cases hE
  · rw [if_neg h] at hE hr
    have hle := rkF_le (1 - u) c (L.length : Int).toNat (L.length : Int).toNat
    by_cases h0 : rkF (1 - u) (L.length : Int).toNat c (L.length : Int).toNat = 0
    · rw [h0] at hE; cases hE
    · omega
theorem sl_CloneQ {v : Value} {L : List Rat} (w : World) (hl : Rows 3 34 PC w v L) (h1 : 1 ≤ L.length) (h2 : L.length ≤ 1000) : Calls Tryz.prog 58 #[v] w (Ret1 (fun w' v => OwnR w.heap.size 34 3 PC w' v L) w) := by
  obtain ⟨b, o, c, rfl, _, _, _⟩ := hl.open_ (by omega)
  obtain ⟨i0, hi, hz, hsz, hby⟩ := alP_parts
  obtain ⟨dss, d1, d2, d3, d4, d5⟩ := rows_flat hl
  have hcon := AnyE.slices_Clone Tryz.cloneL i0 _ 3 56 hi hz hsz hby (by kernel_rfl) (by decide) Tryz.sizeOf34 b o L.length c dss.flatten w (by rw [flat_length _ d2, d1]) (by unfold maxLen; omega) (by omega) (fun j u hu => by have := d5 j u hu; rwa [add_plain] at this) d4
  change Calls Tryz.prog 58 _ _ _ at hcon
  refine hcon.mono ?_
  rintro e w' ⟨v', rfl, hown, _, hb⟩
  exact ⟨v', rfl, ⟨dss, d1, d2, fun i cs x hc hx => PC.kept _ _ _ _ (d3 i cs x hc hx) (.of_below hb), hown⟩, hb⟩
end Go.Proofs.YtlmemilmhdhgbaaGreat
namespace Go.Proofs.YtlmemilmhdhgbaaGreat
open Go.RowKit Dg
attribute [local go_sem ↓] Go.wp_at_zero Go.wp_at_succ
theorem al_cvL_few {v : Value} {L : List Rat} (w : World) (hl : Rows 3 34 PC w v L) (h : L.length < 1) : Calls Tryz.prog 24 #[v] w (RetV w (.int .i64 4)) := by
 obtain ⟨ao, E1, rfl, E4, E5, E6⟩ := hl.toI.slice
 clear hl
 have hs := Below.refl w.heap.size w
 go_enter Tryz.func24, Tryz.ntmps24
 have q1 : L.length < 1 := (by omega)
 have Ea : ((L.length : Int) < 1) = True := eq_true (by omega)
 go_wp2
 go_ret
 exact ⟨rfl, hs⟩
theorem al_cvL_many {v : Value} {L : List Rat} (w : World) (hl : Rows 3 34 PC w v L) (h : 64 < L.length) : Calls Tryz.prog 24 #[v] w (RetV w (.int .i64 4)) := by
 obtain ⟨ao, E1, rfl, E4, E5, E6⟩ := hl.toI.slice
 clear hl
 have hs := Below.refl w.heap.size w
 go_enter Tryz.func24, Tryz.ntmps24
 have q1 : ¬ (L.length < 1) := (by omega)
 have Ea : ((L.length : Int) < 1) = False := eq_false (by omega)
 have q2 : 64 < L.length := (by omega)
 have Eb : ((64 : Int) < (L.length : Int)) = True := eq_true (by omega)
 go_wp2
 go_ret
 exact ⟨rfl, hs⟩
theorem al_cvL_in {v : Value} {L : List Rat} (w : World) (hl : Rows 3 34 PC w v L) (h : 1 ≤ L.length) (h2 : L.length ≤ 64) : Calls Tryz.prog 24 #[v] w (RetV w (.int .i64 0)) := by
 obtain ⟨ao, E1, rfl, E4, E5, E6⟩ := hl.toI.slice
 clear hl
 have hs := Below.refl w.heap.size w
 go_enter Tryz.func24, Tryz.ntmps24
 have q1 : ¬ (L.length < 1) := (by omega)
 have Ea : ((L.length : Int) < 1) = False := eq_false (by omega)
 have q2 : ¬ (64 < L.length) := (by omega)
 have Eb : ((64 : Int) < (L.length : Int)) = False := eq_false (by omega)
 go_wp2
 go_ret
 exact ⟨rfl, hs⟩
theorem al_cvL_all {v : Value} {L : List Rat} (w : World) (hl : Rows 3 34 PC w v L) {e : Int} (he : (if L.length < 1 ∨ 64 < L.length then (4 : Int) else 0) = e) : Calls Tryz.prog 24 #[v] w (RetV w (.int .i64 e)) := by
 subst he
 by_cases h1 : L.length < 1
 ·rw [if_pos (.inl h1)]; exact al_cvL_few w hl h1
 ·by_cases h2 : 64 < L.length
  ·rw [if_pos (.inr h2)]; exact al_cvL_many w hl h2
  ·rw [if_neg (by omega)]; exact al_cvL_in w hl (by omega) (by omega)
theorem r8_cvL_few {v : Value} {L : List Rat} (w : World) (hl : Rows 3 41 RC w v L) (h : L.length < 1) : Calls Tryz.prog 28 #[v] w (RetV w (.int .i64 4)) := by
 obtain ⟨ao, E1, rfl, E4, E5, E6⟩ := hl.toI.slice
 clear hl
 have hs := Below.refl w.heap.size w
 go_enter Tryz.func28, Tryz.ntmps28
 have q1 : L.length < 1 := (by omega)
 have Ea : ((L.length : Int) < 1) = True := eq_true (by omega)
 go_wp2
 go_ret
 exact ⟨rfl, hs⟩
theorem r8_cvL_many {v : Value} {L : List Rat} (w : World) (hl : Rows 3 41 RC w v L) (h : 64 < L.length) : Calls Tryz.prog 28 #[v] w (RetV w (.int .i64 4)) := by
 obtain ⟨ao, E1, rfl, E4, E5, E6⟩ := hl.toI.slice
 clear hl
 have hs := Below.refl w.heap.size w
 go_enter Tryz.func28, Tryz.ntmps28
 have q1 : ¬ (L.length < 1) := (by omega)
 have Ea : ((L.length : Int) < 1) = False := eq_false (by omega)
 have q2 : 64 < L.length := (by omega)
 have Eb : ((64 : Int) < (L.length : Int)) = True := eq_true (by omega)
 go_wp2
 go_ret
 exact ⟨rfl, hs⟩
theorem r8_cvL_in {v : Value} {L : List Rat} (w : World) (hl : Rows 3 41 RC w v L) (h : 1 ≤ L.length) (h2 : L.length ≤ 64) : Calls Tryz.prog 28 #[v] w (RetV w (.int .i64 0)) := by
 obtain ⟨ao, E1, rfl, E4, E5, E6⟩ := hl.toI.slice
 clear hl
 have hs := Below.refl w.heap.size w
 go_enter Tryz.func28, Tryz.ntmps28
 have q1 : ¬ (L.length < 1) := (by omega)
 have Ea : ((L.length : Int) < 1) = False := eq_false (by omega)
 have q2 : ¬ (64 < L.length) := (by omega)
 have Eb : ((64 : Int) < (L.length : Int)) = False := eq_false (by omega)
 go_wp2
 go_ret
 exact ⟨rfl, hs⟩
theorem r8_cvL_all {v : Value} {L : List Rat} (w : World) (hl : Rows 3 41 RC w v L) {e : Int} (he : (if L.length < 1 ∨ 64 < L.length then (4 : Int) else 0) = e) : Calls Tryz.prog 28 #[v] w (RetV w (.int .i64 e)) := by
 subst he
 by_cases h1 : L.length < 1
 ·rw [if_pos (.inl h1)]; exact r8_cvL_few w hl h1
 ·by_cases h2 : 64 < L.length
  ·rw [if_pos (.inr h2)]; exact r8_cvL_many w hl h2
  ·rw [if_neg (by omega)]; exact r8_cvL_in w hl (by omega) (by omega)
theorem al_mean {v : Value} {L : List Rat} (w : World) (hl : Rows 3 34 PC w v L) (g1 : 1 ≤ L.length) (g20 : L.length ≤ 20) {K : Nat} (hK : K ≤ 100000) (hz : ∀ i, i < L.length → SzQ K (nthQ L i)) {q : Rat} (hq : sumQ L L.length / ((L.length : Int) : Rat) = q) : Calls Tryz.prog 42 #[v] w (RetP w q) := by
 obtain ⟨Ch, Eq, Ep, rfl, Dp, Dq, -⟩ := hl.open_ (by omega)
 have HZ := Lib.hid hz
 have HSS := Lib.hid (sumQ_sz hz g20)
 obtain ⟨su, Eo⟩ : ∃ su, sumQ L L.length = su := ⟨_, rfl⟩
 have ss : SzQ (20 * K + 100) su := Eo ▸ sumQ_sz hz g20 L.length (Nat.le_refl _)
 obtain ⟨n, hn⟩ : ∃ n : Rat, ((L.length : Int) : Rat) = n := ⟨_, rfl⟩
 have sn : SzQ 1 n := hn ▸ szQ_int (by omega)
 have ne : n ≠ 0 := fun e => by rw [← hn] at e; have : (L.length : Int) = 0 := (by exact_mod_cast e); omega
 rw [Eo, hn] at hq
 have HSU := Lib.hid Eo
 have HN := Lib.hid hn
 have Dx := Lib.hid ne
 have HQ := Lib.hid hq
 clear hz Eo hn ne hq
 have hs := Below.refl w.heap.size w
 go_enter Tryz.func42, Tryz.ntmps42
 go_wp2
 refine Code.abs ?_
 intro w1 hW
 have hG : Gr [] w w1 := by rw [hW]; exact (Gr.refl _ _).alloc.alloc
 have B9 : Below w.heap.size w w1 := hG.below0 hs.size
 have hk : KeepD w w1 := hG.keep True.intro
 have D3 : w.heap.size ≤ w.heap.size := hs.size
 have nhl_w1 : Ch < w.heap.size := hl.lt (by omega)
 have Blk : Bx w1 (w.heap.size) 34 #[.bool false, .slice none 0 0, .slice none 0 0] := by rw [hW]; exact ((Bx.new0 _ _ _).alloc _)
 have B1 : Bx w1 (w.heap.size + 1) 34 #[.bool false, .slice none 0 0, .slice none 0 0] := by rw [hW]; exact (Bx.new0 _ _ _)
 replace hs := hs.trans B9
 replace hl := rowsJ PC.kept _ _ _ hl (hG.below0 (Nat.le_refl _))
 clear hW hG hk B9
 have D2 : w.heap.size + 1 < w1.heap.size := B1.lt
 go_loopw [10] (fun s10 wq => ∃ k : Nat, k ≤ L.length ∧ s10 = .int .i64 k ∧ Below w.heap.size w wq ∧ Bx wq (w.heap.size) 34 #[.bool false, .slice none 0 0, .slice none 0 0] ∧ Rows 3 34 PC wq (.slice (some ⟨Ch, Eq, none⟩) L.length Ep) L ∧ BoxP wq (w.heap.size + 1) (sumQ L k)) (fun s10 _ => L.length - (intOf s10).toNat)
 case atStart => exact ⟨0, Nat.zero_le _, rfl, hs, Blk, hl, ⟨_, _, _, _, _, _, _, B1, (PV.zero _)⟩⟩
 case round =>
  clear Blk B1 hl hs
  obtain ⟨k, Es, rfl, hs, Blk, hl, ⟨C4, By, C2, C0, Br, Bv, Bt, B1, h1⟩⟩ := hrel
  by_cases q2 : k < L.length
  ·have Eb : ((k : Int) < (L.length : Int)) = True := eq_true (by omega)
   have BI3a : k < L.length := by omega
   have BI3b : ((k : Int) : Int) < (L.length : Int) := by omega
   obtain ⟨D0, Cy, D1, Cz, Ct, Cx, Cw, Ef, Eg, Eh, C8, le4⟩ := rowP_at hl (show k < L.length by omega)
   go_upto_region 5 with fail
   clear le4 Ef Eg Eh
   refine Code.abs ?_
   intro Ba hW
   have hG : Gr [] wr Ba := by rw [hW]; exact (Gr.refl _ _).alloc
   have B9 : Below w.heap.size wr Ba := hG.below0 hs.size
   have hk : KeepD wr Ba := hG.keep True.intro
   have sz_w22 : w.heap.size ≤ wr.heap.size := hs.size
   have nk_w22 : w.heap.size < wr.heap.size := Blk.lt
   have J6 : w.heap.size + 1 < wr.heap.size := B1.lt
   have J7 : Ch < wr.heap.size := hl.lt (by omega)
   have Bf : Bx Ba (wr.heap.size) 34 #[.bool D0, .slice Cy D1 Cz, .slice Ct Cx Cw] := by rw [hW]; exact (Bx.new0 _ _ _)
   replace hs := hs.trans B9
   replace hl := rowsJ PC.kept _ _ _ hl (hG.below0 (Nat.le_refl _))
   replace Blk := hG.bx Blk notMem0
   replace B1 := hG.bx B1 notMem0
   replace h1 := h1.keep hk
   replace C8 := C8.keep hk
   clear hW hG hk B9
   have hz_w22 : wr.heap.size < Ba.heap.size := Bf.lt
   have B2 : Ba.cell? ⟨w.heap.size + 1, 0, none⟩ = some (.bool C4) := B1.at 0 rfl
   have B3 : Ba.cell? ⟨w.heap.size + 1, 1, none⟩ = some (.slice By C2 C0) := B1.at 1 rfl
   have B4 : Ba.cell? ⟨w.heap.size + 1, 2, none⟩ = some (.slice Br Bv Bt) := B1.at 2 rfl
   have Ej : w.heap.size + 1 < Ba.heap.size := B1.lt
   have J2 : Ba.cell? ⟨wr.heap.size, 0, none⟩ = some (.bool D0) := Bf.at 0 rfl
   have J3 : Ba.cell? ⟨wr.heap.size, 1, none⟩ = some (.slice Cy D1 Cz) := Bf.at 1 rfl
   have J4 : Ba.cell? ⟨wr.heap.size, 2, none⟩ = some (.slice Ct Cx Cw) := Bf.at 2 rfl
   have Lx : wr.heap.size < Ba.heap.size := Bf.lt
   go_wp2_with fail
   clear B2 B3 B4 J2 J3 J4 Ej Lx
   with_reducible refine (pAdd h1 C8 (SzQ.fit (HSS.out k (by omega))) (SzQ.fit (HZ.out k (by omega)))).mono ?_
   rintro e Bb ⟨_, rfl, h5, hb⟩
   obtain ⟨sh5, ah5, nh5, ch5, Ah5, Nh5, Ch5, rfl⟩ := h5.shape
   replace hs := bStep hs hb
   replace Blk := Blk.mono hb
   replace B1 := B1.mono hb
   replace Bf := Bf.mono hb
   replace h1 := h1.mono hb
   replace C8 := C8.mono hb
   replace hl := rowsJ PC.kept _ _ _ hl hb
   clear hb
   have B2 : Bb.cell? ⟨w.heap.size + 1, 0, none⟩ = some (.bool C4) := B1.at 0 rfl
   have B3 : Bb.cell? ⟨w.heap.size + 1, 1, none⟩ = some (.slice By C2 C0) := B1.at 1 rfl
   have B4 : Bb.cell? ⟨w.heap.size + 1, 2, none⟩ = some (.slice Br Bv Bt) := B1.at 2 rfl
   have fsum := B1.free
   have Ej : w.heap.size + 1 < Bb.heap.size := B1.lt
   go_upto_region 6 with fail
   clear B2 B3 B4 fsum Ej
   refine Code.abs ?_
   intro w24 hW
   have hG : Gr [w.heap.size + 1] Bb w24 := by rw [hW]; exact (Gr.refl _ _).set.set.set
   have Bn := hs.size
   have lsum := B1.lt
   have B9 : Below w.heap.size Bb w24 := hG.below1 hs.size (by first | omega | assumption)
   have hk : KeepD Bb w24 := hG.keep ⟨⟨_, B1.ty, by decide⟩, True.intro⟩
   have Dv : Bx w24 (w.heap.size + 1) 34 #[.bool sh5, .slice ah5 nh5 ch5, .slice Ah5 Nh5 Ch5] := by rw [hW]; exact B1.set3
   replace hs := hs.trans B9
   replace hl := hl.gr PC.kept hG (notMem1 (by omega)) hk
   replace Blk := hG.bx Blk (notMem1 (by omega))
   replace Bf := hG.bx Bf (notMem1 (by omega))
   replace B1 := Dv
   clear Dv
   replace h1 := h1.keep hk
   replace C8 := C8.keep hk
   replace h5 := h5.keep hk
   clear hW hG hk B9 Bn lsum
   go_wp2
   go_roundw
   case rel => exact ⟨k + 1, by omega, by go_num, hs, Blk, hl, ⟨_, _, _, _, _, _, _, B1, (h5.of_eq (by rfl))⟩⟩
   all_goals first | (simp [intOf]; done) | (simp [intOf]; omega)
  ·have Eb : ((k : Int) < (L.length : Int)) = False := eq_false (by omega)
   obtain rfl : k = L.length := by omega
   replace h1 := h1.of_eq HSU.out
   go_upto_region 7 with fail
   go_cut [6, 7] (fun kv0 kx0 wz => ∃ C7 C5 Bz C3 C1 Bs Bw Bu, kv0 = .pointer (some ⟨C7, 0, none⟩) ∧ kx0 = .int .i64 0 ∧ w.heap.size ≤ C7 ∧ C7 ≠ w.heap.size ∧ C7 ≠ (w.heap.size + 1) ∧ Ch ≠ C7 ∧ Bx wz C7 34 #[.bool C5, .slice Bz C3 C1, .slice Bs Bw Bu] ∧ Below w.heap.size w wz ∧ Bx wz (w.heap.size) 34 #[.bool false, .slice none 0 0, .slice none 0 0] ∧ Bx wz (w.heap.size + 1) 34 #[.bool C4, .slice By C2 C0, .slice Br Bv Bt] ∧ PV wz (.agg #[.bool C4, .slice By C2 C0, .slice Br Bv Bt]) (su) ∧ PV wz (.agg #[.bool C5, .slice Bz C3 C1, .slice Bs Bw Bu]) (su / n) ∧ Rows 3 34 PC wz (.slice (some ⟨Ch, Eq, none⟩) L.length Ep) L)
   case first =>
    refine U_region (S := fun w' => w'.cell? ⟨w.heap.size + 1, 0, none⟩ = some (.bool C4) ∧ w'.cell? ⟨w.heap.size + 1, 1, none⟩ = some (.slice By C2 C0) ∧ w'.cell? ⟨w.heap.size + 1, 2, none⟩ = some (.slice Br Bv Bt)) (by kernel_rfl) 10 ?_
    refine AnyU.abs ?_
    intro Ba hW
    have hb : Below wr.heap.size wr Ba := by rw [hW]; exact bDrew _
    replace hs := bStep hs hb
    replace Blk := Blk.mono hb
    replace B1 := B1.mono hb
    replace h1 := h1.mono hb
    replace hl := rowsJ PC.kept _ _ _ hl hb
    clear hb hW
    have B2 : Ba.cell? ⟨w.heap.size + 1, 0, none⟩ = some (.bool C4) := B1.at 0 rfl
    have B3 : Ba.cell? ⟨w.heap.size + 1, 1, none⟩ = some (.slice By C2 C0) := B1.at 1 rfl
    have B4 : Ba.cell? ⟨w.heap.size + 1, 2, none⟩ = some (.slice Br Bv Bt) := B1.at 2 rfl
    have hH := (show Ba.cell? ⟨w.heap.size + 1, 0, none⟩ = some (.bool C4) ∧ Ba.cell? ⟨w.heap.size + 1, 1, none⟩ = some (.slice By C2 C0) ∧ Ba.cell? ⟨w.heap.size + 1, 2, none⟩ = some (.slice Br Bv Bt) from ⟨B2, B3, B4⟩)
    refine U_tt 0 ?_ ?_ hH ?_
    rotate_left
    ·(intro w Bg; (try dsimp only at Bg); go_simp; try with_reducible rfl)
    try simp only [LY]
    refine U_tt 1 ?_ ?_ hH ?_
    rotate_left
    ·(intro w Bg; (try dsimp only at Bg); go_simp; try with_reducible rfl)
    try simp only [LY]
    refine U_tt 2 ?_ ?_ hH ?_
    rotate_left
    ·(intro w Bg; (try dsimp only at Bg); go_simp; try with_reducible rfl)
    try simp only [LY]
    refine U_two (i := 3) (j := 8) (by kernel_rfl) rfl rfl (fun K hK => ?_) (fun K hK => ?_)
    ·clear hH
     go_simp
     (with_reducible refine (al_wholeN HN.out _ (by omega)).mono ?_)
     rintro e Bb ⟨_, rfl, h3, hb⟩
     obtain ⟨Ec, E0, E8, E2, Du, Dz, Dw, rfl⟩ := h3.shape
     replace hs := bStep hs hb
     replace Blk := Blk.mono hb
     replace B1 := B1.mono hb
     replace h1 := h1.mono hb
     replace hl := rowsJ PC.kept _ _ _ hl hb
     replace B2 := cellK B2 hb
     replace B3 := cellK B3 hb
     replace B4 := cellK B4 hb
     clear hb
     try go_wp2_with fail
     refine hK.out _ _ ⟨B2, B3, B4⟩ (fun hH => ?_)
     clear hK K
     try simp only [LY]
     refine U_two (i := 4) (j := 8) (by kernel_rfl) rfl rfl (fun K hK => ?_) (fun K hK => ?_)
     ·clear hH
      go_simp
      (with_reducible refine (pDiv h1 h3 (SzQ.fit ss) (SzQ.fit sn) Dx.out).mono ?_)
      rintro e w24 ⟨_, rfl, h4, hb⟩
      obtain ⟨C5, Bz, C3, C1, Bs, Bw, Bu, rfl⟩ := h4.shape
      replace hs := bStep hs hb
      replace Blk := Blk.mono hb
      replace B1 := B1.mono hb
      replace h1 := h1.mono hb
      replace h3 := h3.mono hb
      replace hl := rowsJ PC.kept _ _ _ hl hb
      replace B2 := cellK B2 hb
      replace B3 := cellK B3 hb
      replace B4 := cellK B4 hb
      clear hb
      try go_wp2_with fail
      refine hK.out _ _ ⟨B2, B3, B4⟩ (fun hH => ?_)
      clear hK K
      try simp only [LY]
      refine U_tt 5 ?_ ?_ hH ?_
      rotate_left
      ·(intro w Bg; (try dsimp only at Bg); go_simp; try with_reducible rfl)
      try simp only [LY]
      refine U_tt 6 ?_ ?_ hH ?_
      rotate_left
      ·(intro w Bg; (try dsimp only at Bg); go_simp; try with_reducible rfl)
      try simp only [LY]
      refine U_tt 7 ?_ ?_ hH ?_
      rotate_left
      ·(intro w Bg; (try dsimp only at Bg); go_simp; try with_reducible rfl)
      try simp only [LY]
      clear hH
      refine U_one (i := 8) (by kernel_rfl) rfl (fun K hK => ?_)
      go_simp
      generalize hWn : (w24.alloc (.cells #[.bool false, .slice none 0 0, .slice none 0 0] 34)) = Bc
      have hb : Below w24.heap.size w24 Bc := by rw [← hWn]; exact (Below.refl _ _).alloc (Nat.le_refl _) _
      have B5 : Bx Bc (w24.heap.size) 34 #[.bool false, .slice none 0 0, .slice none 0 0] := by rw [← hWn]; exact Bx.new _ _ _
      have E9 : w.heap.size ≠ w24.heap.size := by have := Blk.lt; omega
      have Dl : w.heap.size + 1 ≠ w24.heap.size := by have := B1.lt; omega
      have Ds : Ch < w24.heap.size := hl.lt (by omega)
      have Ci : w.heap.size ≤ w24.heap.size := hs.size
      replace hs := bStep hs hb
      replace Blk := Blk.mono hb
      replace B1 := B1.mono hb
      replace h1 := h1.mono hb
      replace h3 := h3.mono hb
      replace h4 := h4.mono hb
      replace hl := rowsJ PC.kept _ _ _ hl hb
      replace B2 := cellK B2 hb
      replace B3 := cellK B3 hb
      replace B4 := cellK B4 hb
      clear hb hWn
      refine hK.out _ _ ⟨B2, B3, B4⟩ (fun hH => ?_)
      clear hK K
      try simp only [LY]
      clear hH
      have Cq : Bc.cell? ⟨w24.heap.size, 0, none⟩ = some (.bool false) := B5.at 0 rfl
      have Cr : Bc.cell? ⟨w24.heap.size, 1, none⟩ = some (.slice none 0 0) := B5.at 1 rfl
      have Cs : Bc.cell? ⟨w24.heap.size, 2, none⟩ = some (.slice none 0 0) := B5.at 2 rfl
      have Er := B5.free
      have Dt : w24.heap.size < Bc.heap.size := B5.lt
      refine U_one (i := 9) (by kernel_rfl) rfl (fun K hK => ?_)
      go_simp
      generalize hW_ : (((Bc.setCell ⟨w24.heap.size, 0, none⟩ (.bool C5)).setCell ⟨w24.heap.size, 1, none⟩ (.slice Bz C3 C1)).setCell ⟨w24.heap.size, 2, none⟩ (.slice Bs Bw Bu)) = Be
      have hW := hW_.symm
      clear hW_
      have hG : Gr [w24.heap.size] Bc Be := by rw [hW]; exact (Gr.refl _ _).set.set.set
      have Bn := hs.size
      have Di := B5.lt
      have B9 : Below w.heap.size Bc Be := hG.below1 hs.size (by first | omega | assumption)
      have hk : KeepD Bc Be := hG.keep ⟨⟨_, B5.ty, by decide⟩, True.intro⟩
      have Bl : Bx Be (w24.heap.size) 34 #[.bool C5, .slice Bz C3 C1, .slice Bs Bw Bu] := by rw [hW]; exact B5.set3
      replace hs := hs.trans B9
      replace hl := hl.gr PC.kept hG (notMem1 (by omega)) hk
      replace Blk := hG.bx Blk (notMem1 (by omega))
      replace B1 := hG.bx B1 (notMem1 (by omega))
      replace B5 := Bl
      clear Bl
      replace h1 := h1.keep hk
      replace h3 := h3.keep hk
      replace h4 := h4.keep hk
      replace B2 := hG.cell B2 (notMem1 (by dsimp only; omega))
      replace B3 := hG.cell B3 (notMem1 (by dsimp only; omega))
      replace B4 := hG.cell B4 (notMem1 (by dsimp only; omega))
      clear hW hG hk B9 Bn Di
      refine hK.out _ _ ⟨B2, B3, B4⟩ (fun hH => ?_)
      clear hK K
      try simp only [LY]
      clear hH
      refine U_last (by kernel_rfl) rfl (by kernel_rfl) (fun K hK => ?_)
      go_simp
      refine hK.out _ _ ?_
      clear hK K
      intro wl hW
      rw [hW]
      clear hW wl
      try simp only [LY]
      clear B2 B3 B4
      go_wp2_with fail
      go_meet
      exact ⟨w24.heap.size, _, _, _, _, _, _, _, rfl, rfl, (by first | exact Ci | omega), (by omega), (by omega), (by omega), B5, hs, Blk, B1, h1, h4, hl⟩
     ·clear hH
      go_simp
      generalize hWn : (Bb.alloc (.cells #[.bool false, .slice none 0 0, .slice none 0 0] 34)) = w24
      have hb : Below Bb.heap.size Bb w24 := by rw [← hWn]; exact (Below.refl _ _).alloc (Nat.le_refl _) _
      have B5 : Bx w24 (Bb.heap.size) 34 #[.bool false, .slice none 0 0, .slice none 0 0] := by rw [← hWn]; exact Bx.new _ _ _
      have E9 : w.heap.size ≠ Bb.heap.size := by have := Blk.lt; omega
      have Dl : w.heap.size + 1 ≠ Bb.heap.size := by have := B1.lt; omega
      have Ds : Ch < Bb.heap.size := hl.lt (by omega)
      have Ci : w.heap.size ≤ Bb.heap.size := hs.size
      replace hs := bStep hs hb
      replace Blk := Blk.mono hb
      replace B1 := B1.mono hb
      replace h1 := h1.mono hb
      replace h3 := h3.mono hb
      replace hl := rowsJ PC.kept _ _ _ hl hb
      replace B2 := cellK B2 hb
      replace B3 := cellK B3 hb
      replace B4 := cellK B4 hb
      clear hb hWn
      refine hK.out _ _ ⟨B2, B3, B4⟩ (fun hH => ?_)
      clear hK K
      try simp only [LY]
      clear hH
      refine U_one (i := 4) (by kernel_rfl) rfl (fun K hK => ?_)
      go_simp
      (with_reducible refine (pDiv h1 h3 (SzQ.fit ss) (SzQ.fit sn) Dx.out).mono ?_)
      rintro e Bc ⟨_, rfl, h4, hb⟩
      obtain ⟨C5, Bz, C3, C1, Bs, Bw, Bu, rfl⟩ := h4.shape
      replace hs := bStep hs hb
      replace Blk := Blk.mono hb
      replace B1 := B1.mono hb
      replace B5 := B5.mono hb
      replace h1 := h1.mono hb
      replace h3 := h3.mono hb
      replace hl := rowsJ PC.kept _ _ _ hl hb
      replace B2 := cellK B2 hb
      replace B3 := cellK B3 hb
      replace B4 := cellK B4 hb
      clear hb
      try go_wp2_with fail
      refine hK.out _ _ ⟨B2, B3, B4⟩ (fun hH => ?_)
      clear hK K
      try simp only [LY]
      refine U_tt 5 ?_ ?_ hH ?_
      rotate_left
      ·(intro w Bg; (try dsimp only at Bg); go_simp; try with_reducible rfl)
      try simp only [LY]
      refine U_tt 6 ?_ ?_ hH ?_
      rotate_left
      ·(intro w Bg; (try dsimp only at Bg); go_simp; try with_reducible rfl)
      try simp only [LY]
      refine U_tt 7 ?_ ?_ hH ?_
      rotate_left
      ·(intro w Bg; (try dsimp only at Bg); go_simp; try with_reducible rfl)
      try simp only [LY]
      clear hH
      have Cq : Bc.cell? ⟨Bb.heap.size, 0, none⟩ = some (.bool false) := B5.at 0 rfl
      have Cr : Bc.cell? ⟨Bb.heap.size, 1, none⟩ = some (.slice none 0 0) := B5.at 1 rfl
      have Cs : Bc.cell? ⟨Bb.heap.size, 2, none⟩ = some (.slice none 0 0) := B5.at 2 rfl
      have Er := B5.free
      have Dt : Bb.heap.size < Bc.heap.size := B5.lt
      refine U_one (i := 9) (by kernel_rfl) rfl (fun K hK => ?_)
      go_simp
      generalize hW_ : (((Bc.setCell ⟨Bb.heap.size, 0, none⟩ (.bool C5)).setCell ⟨Bb.heap.size, 1, none⟩ (.slice Bz C3 C1)).setCell ⟨Bb.heap.size, 2, none⟩ (.slice Bs Bw Bu)) = Be
      have hW := hW_.symm
      clear hW_
      have hG : Gr [Bb.heap.size] Bc Be := by rw [hW]; exact (Gr.refl _ _).set.set.set
      have Bn := hs.size
      have Di := B5.lt
      have B9 : Below w.heap.size Bc Be := hG.below1 hs.size (by first | omega | assumption)
      have hk : KeepD Bc Be := hG.keep ⟨⟨_, B5.ty, by decide⟩, True.intro⟩
      have Bl : Bx Be (Bb.heap.size) 34 #[.bool C5, .slice Bz C3 C1, .slice Bs Bw Bu] := by rw [hW]; exact B5.set3
      replace hs := hs.trans B9
      replace hl := hl.gr PC.kept hG (notMem1 (by omega)) hk
      replace Blk := hG.bx Blk (notMem1 (by omega))
      replace B1 := hG.bx B1 (notMem1 (by omega))
      replace B5 := Bl
      clear Bl
      replace h1 := h1.keep hk
      replace h3 := h3.keep hk
      replace h4 := h4.keep hk
      replace B2 := hG.cell B2 (notMem1 (by dsimp only; omega))
      replace B3 := hG.cell B3 (notMem1 (by dsimp only; omega))
      replace B4 := hG.cell B4 (notMem1 (by dsimp only; omega))
      clear hW hG hk B9 Bn Di
      refine hK.out _ _ ⟨B2, B3, B4⟩ (fun hH => ?_)
      clear hK K
      try simp only [LY]
      clear hH
      refine U_last (by kernel_rfl) rfl (by kernel_rfl) (fun K hK => ?_)
      go_simp
      refine hK.out _ _ ?_
      clear hK K
      intro wl hW
      rw [hW]
      clear hW wl
      try simp only [LY]
      clear B2 B3 B4
      go_wp2_with fail
      go_meet
      exact ⟨Bb.heap.size, _, _, _, _, _, _, _, rfl, rfl, (by first | exact Ci | omega), (by omega), (by omega), (by omega), B5, hs, Blk, B1, h1, h4, hl⟩
    ·clear hH
     go_simp
     generalize hWn : (Ba.alloc (.cells #[.bool false, .slice none 0 0, .slice none 0 0] 34)) = Bb
     have hb : Below Ba.heap.size Ba Bb := by rw [← hWn]; exact (Below.refl _ _).alloc (Nat.le_refl _) _
     have B5 : Bx Bb (Ba.heap.size) 34 #[.bool false, .slice none 0 0, .slice none 0 0] := by rw [← hWn]; exact Bx.new _ _ _
     have E9 : w.heap.size ≠ Ba.heap.size := by have := Blk.lt; omega
     have Dl : w.heap.size + 1 ≠ Ba.heap.size := by have := B1.lt; omega
     have Ds : Ch < Ba.heap.size := hl.lt (by omega)
     have Ci : w.heap.size ≤ Ba.heap.size := hs.size
     replace hs := bStep hs hb
     replace Blk := Blk.mono hb
     replace B1 := B1.mono hb
     replace h1 := h1.mono hb
     replace hl := rowsJ PC.kept _ _ _ hl hb
     replace B2 := cellK B2 hb
     replace B3 := cellK B3 hb
     replace B4 := cellK B4 hb
     clear hb hWn
     refine hK.out _ _ ⟨B2, B3, B4⟩ (fun hH => ?_)
     clear hK K
     try simp only [LY]
     clear hH
     refine U_one (i := 3) (by kernel_rfl) rfl (fun K hK => ?_)
     go_simp
     (with_reducible refine (al_wholeN HN.out _ (by omega)).mono ?_)
     rintro e w24 ⟨_, rfl, h3, hb⟩
     obtain ⟨Ec, E0, E8, E2, Du, Dz, Dw, rfl⟩ := h3.shape
     replace hs := bStep hs hb
     replace Blk := Blk.mono hb
     replace B1 := B1.mono hb
     replace B5 := B5.mono hb
     replace h1 := h1.mono hb
     replace hl := rowsJ PC.kept _ _ _ hl hb
     replace B2 := cellK B2 hb
     replace B3 := cellK B3 hb
     replace B4 := cellK B4 hb
     clear hb
     try go_wp2_with fail
     refine hK.out _ _ ⟨B2, B3, B4⟩ (fun hH => ?_)
     clear hK K
     try simp only [LY]
     clear hH
     refine U_one (i := 4) (by kernel_rfl) rfl (fun K hK => ?_)
     go_simp
     (with_reducible refine (pDiv h1 h3 (SzQ.fit ss) (SzQ.fit sn) Dx.out).mono ?_)
     rintro e Bc ⟨_, rfl, h4, hb⟩
     obtain ⟨C5, Bz, C3, C1, Bs, Bw, Bu, rfl⟩ := h4.shape
     replace hs := bStep hs hb
     replace Blk := Blk.mono hb
     replace B1 := B1.mono hb
     replace B5 := B5.mono hb
     replace h1 := h1.mono hb
     replace h3 := h3.mono hb
     replace hl := rowsJ PC.kept _ _ _ hl hb
     replace B2 := cellK B2 hb
     replace B3 := cellK B3 hb
     replace B4 := cellK B4 hb
     clear hb
     try go_wp2_with fail
     refine hK.out _ _ ⟨B2, B3, B4⟩ (fun hH => ?_)
     clear hK K
     try simp only [LY]
     refine U_tt 5 ?_ ?_ hH ?_
     rotate_left
     ·(intro w Bg; (try dsimp only at Bg); go_simp; try with_reducible rfl)
     try simp only [LY]
     refine U_tt 6 ?_ ?_ hH ?_
     rotate_left
     ·(intro w Bg; (try dsimp only at Bg); go_simp; try with_reducible rfl)
     try simp only [LY]
     refine U_tt 7 ?_ ?_ hH ?_
     rotate_left
     ·(intro w Bg; (try dsimp only at Bg); go_simp; try with_reducible rfl)
     try simp only [LY]
     clear hH
     have Cq : Bc.cell? ⟨Ba.heap.size, 0, none⟩ = some (.bool false) := B5.at 0 rfl
     have Cr : Bc.cell? ⟨Ba.heap.size, 1, none⟩ = some (.slice none 0 0) := B5.at 1 rfl
     have Cs : Bc.cell? ⟨Ba.heap.size, 2, none⟩ = some (.slice none 0 0) := B5.at 2 rfl
     have Er := B5.free
     have Dt : Ba.heap.size < Bc.heap.size := B5.lt
     refine U_one (i := 9) (by kernel_rfl) rfl (fun K hK => ?_)
     go_simp
     generalize hW_ : (((Bc.setCell ⟨Ba.heap.size, 0, none⟩ (.bool C5)).setCell ⟨Ba.heap.size, 1, none⟩ (.slice Bz C3 C1)).setCell ⟨Ba.heap.size, 2, none⟩ (.slice Bs Bw Bu)) = Be
     have hW := hW_.symm
     clear hW_
     have hG : Gr [Ba.heap.size] Bc Be := by rw [hW]; exact (Gr.refl _ _).set.set.set
     have Bn := hs.size
     have Di := B5.lt
     have B9 : Below w.heap.size Bc Be := hG.below1 hs.size (by first | omega | assumption)
     have hk : KeepD Bc Be := hG.keep ⟨⟨_, B5.ty, by decide⟩, True.intro⟩
     have Bl : Bx Be (Ba.heap.size) 34 #[.bool C5, .slice Bz C3 C1, .slice Bs Bw Bu] := by rw [hW]; exact B5.set3
     replace hs := hs.trans B9
     replace hl := hl.gr PC.kept hG (notMem1 (by omega)) hk
     replace Blk := hG.bx Blk (notMem1 (by omega))
     replace B1 := hG.bx B1 (notMem1 (by omega))
     replace B5 := Bl
     clear Bl
     replace h1 := h1.keep hk
     replace h3 := h3.keep hk
     replace h4 := h4.keep hk
     replace B2 := hG.cell B2 (notMem1 (by dsimp only; omega))
     replace B3 := hG.cell B3 (notMem1 (by dsimp only; omega))
     replace B4 := hG.cell B4 (notMem1 (by dsimp only; omega))
     clear hW hG hk B9 Bn Di
     refine hK.out _ _ ⟨B2, B3, B4⟩ (fun hH => ?_)
     clear hK K
     try simp only [LY]
     clear hH
     refine U_last (by kernel_rfl) rfl (by kernel_rfl) (fun K hK => ?_)
     go_simp
     refine hK.out _ _ ?_
     clear hK K
     intro wl hW
     rw [hW]
     clear hW wl
     try simp only [LY]
     clear B2 B3 B4
     go_wp2_with fail
     go_meet
     exact ⟨Ba.heap.size, _, _, _, _, _, _, _, rfl, rfl, (by first | exact Ci | omega), (by omega), (by omega), (by omega), B5, hs, Blk, B1, h1, h4, hl⟩
   case rest =>
    clear hs Blk B1 h1 hl
    obtain ⟨C7, C5, Bz, C3, C1, Bs, Bw, Bu, rfl, rfl, hg_out, J5, Eu, Ev, B5, hs, Blk, B1, h1, h4, hl⟩ := hcut
    have Cq : wc.cell? ⟨C7, 0, none⟩ = some (.bool C5) := B5.at 0 rfl
    have Cr : wc.cell? ⟨C7, 1, none⟩ = some (.slice Bz C3 C1) := B5.at 1 rfl
    have Cs : wc.cell? ⟨C7, 2, none⟩ = some (.slice Bs Bw Bu) := B5.at 2 rfl
    have Dt : C7 < wc.heap.size := B5.lt
    have Bh : wc.cell? ⟨w.heap.size, 0, none⟩ = some (.bool false) := Blk.at 0 rfl
    have Bi : wc.cell? ⟨w.heap.size, 1, none⟩ = some (.slice none 0 0) := Blk.at 1 rfl
    have Bj : wc.cell? ⟨w.heap.size, 2, none⟩ = some (.slice none 0 0) := Blk.at 2 rfl
    have fk := Blk.free
    have Lk : w.heap.size < wc.heap.size := Blk.lt
    go_wp2
    clear Cq Cr Cs Bh Bi Bj fk Dt Lk
    refine bodyPost.abs ?_
    intro Ba hW
    have hG : Gr [w.heap.size] wc Ba := by rw [hW]; exact (Gr.refl _ _).set.set.set
    have Bn := hs.size
    have lk := Blk.lt
    have B9 : Below w.heap.size wc Ba := hG.below1 hs.size (by first | omega | assumption)
    have hk : KeepD wc Ba := hG.keep ⟨⟨_, Blk.ty, by decide⟩, True.intro⟩
    have C6 : Bx Ba (w.heap.size) 34 #[.bool C5, .slice Bz C3 C1, .slice Bs Bw Bu] := by rw [hW]; exact Blk.set3
    replace hs := hs.trans B9
    replace hl := hl.gr PC.kept hG (notMem1 (by omega)) hk
    replace B1 := hG.bx B1 (notMem1 (by omega))
    replace B5 := hG.bx B5 (notMem1 (by omega))
    replace Blk := C6
    clear C6
    replace h1 := h1.keep hk
    replace h4 := h4.keep hk
    clear hW hG hk B9 Bn lk
    have Bh : Ba.cell? ⟨w.heap.size, 0, none⟩ = some (.bool C5) := Blk.at 0 rfl
    have Bi : Ba.cell? ⟨w.heap.size, 1, none⟩ = some (.slice Bz C3 C1) := Blk.at 1 rfl
    have Bj : Ba.cell? ⟨w.heap.size, 2, none⟩ = some (.slice Bs Bw Bu) := Blk.at 2 rfl
    exact bodyPost_ret (v := .agg #[.bool C5, .slice Bz C3 C1, .slice Bs Bw Bu]) (by simp [results, Tryz.results42, go_sem, Bh, Bi, Bj]) rfl ⟨_, rfl, h4.of_eq (by rw [HQ.out]), hs⟩
theorem al_squares {v : Value} {L : List Rat} (w : World) (hl : Rows 3 34 PC w v L) (g1 : 1 ≤ L.length) (g20 : L.length ≤ 20) {K : Nat} (hK : K ≤ 100000) (hz : ∀ i, i < L.length → SzQ K (nthQ L i)) {m : Rat} (hm : sumQ L L.length / ((L.length : Int) : Rat) = m) (sm : SzQ (20 * K + 101) m) : Calls Tryz.prog 43 #[v] w (Ret1 (fun w v => Rows 3 34 PC w v (sqK L m L.length)) w) := by
 obtain ⟨Ch, Eq, Ep, rfl, Dp, Dq, -⟩ := hl.open_ (by omega)
 have HZ := Lib.hid hz
 have HM := Lib.hid hm
 clear hz hm
 obtain ⟨i0, hi, hz0, hz1, hz2⟩ := info_parts alP_info
 have hs := Below.refl w.heap.size w
 go_enter Tryz.func43, Tryz.ntmps43
 go_wp2_with fail
 with_reducible refine (al_mean _ hl g1 g20 hK HZ.out HM.out).mono ?_
 rintro e w1 ⟨_, rfl, h1, hb⟩
 obtain ⟨C4, By, C2, C0, Br, Bv, Bt, rfl⟩ := h1.shape
 replace hs := bStep hs hb
 replace hl := rowsJ PC.kept _ _ _ hl hb
 clear hb
 go_wp2
 refine Code.abs ?_
 intro w2 hW
 have hG : Gr [] w1 w2 := by rw [hW]; exact (Gr.refl _ _).alloc
 have B9 : Below w.heap.size w1 w2 := hG.below0 hs.size
 have hk : KeepD w1 w2 := hG.keep True.intro
 have sz_w2 : w.heap.size ≤ w1.heap.size := hs.size
 have nhl_w2 : Ch < w1.heap.size := hl.lt (by omega)
 have Bd : Bx w2 (w1.heap.size) 34 #[.bool C4, .slice By C2 C0, .slice Br Bv Bt] := by rw [hW]; exact (Bx.new0 _ _ _)
 replace hs := hs.trans B9
 replace hl := rowsJ PC.kept _ _ _ hl (hG.below0 (Nat.le_refl _))
 replace h1 := h1.keep hk
 clear hW hG hk B9
 have hz_w2 : w1.heap.size < w2.heap.size := Bd.lt
 have Et := Lib.hid hs
 clear hs
 have hs := Below.refl w2.heap.size w2
 have nb_m : w1.heap.size < w2.heap.size := Bd.lt
 have Fhl := Lib.hid hl
 clear hl
 go_loopw [4, 12] (fun s4 s12 wq => ∃ k : Nat, k ≤ L.length ∧ s12 = .int .i64 k ∧ Below w2.heap.size w2 wq ∧ Bx wq (w1.heap.size) 34 #[.bool C4, .slice By C2 C0, .slice Br Bv Bt] ∧ PV wq (.agg #[.bool C4, .slice By C2 C0, .slice Br Bv Bt]) (m) ∧ OwnR w2.heap.size 34 3 PC wq s4 (sqK L m k)) (fun s4 s12 _ => L.length - (intOf s12).toNat)
 case atStart => exact ⟨0, Nat.zero_le _, rfl, hs, Bd, h1, OwnR.nil _ _ _ _ _⟩
 case round =>
  clear Bd h1 hs
  obtain ⟨k, Es, rfl, hs, Bd, h1, Bm⟩ := hrel
  have lnr1 : (sqK L m k).length ≤ k := Nat.le_of_eq (sqK_len L m Es)
  by_cases q3 : k < L.length
  ·have q3d : ((k : Int) < (L.length : Int)) = True := eq_true (by omega)
   have BI4a : k < L.length := by omega
   have BI4b : ((k : Int) : Int) < (L.length : Int) := by omega
   obtain ⟨ge5a, ae5a, ne5a, ce5a, Ae5a, Ne5a, De5a, Ew, Ex, Ey, Bk, le5⟩ := rowP_at (rowsJ PC.kept _ _ _ Fhl.out hs) (show k < L.length by omega)
   have Ez : wr.cell? ⟨w1.heap.size, 0, none⟩ = some (.bool C4) := Bd.at 0 rfl
   have J0 : wr.cell? ⟨w1.heap.size, 1, none⟩ = some (.slice By C2 C0) := Bd.at 1 rfl
   have J1 : wr.cell? ⟨w1.heap.size, 2, none⟩ = some (.slice Br Bv Bt) := Bd.at 2 rfl
   have Lm : w1.heap.size < wr.heap.size := Bd.lt
   go_wp2_with fail
   clear Ez J0 J1 Lm le5 Ew Ex Ey
   refine Calls.abs ?_
   intro Bb hW
   have hG : Gr [] wr Bb := by rw [hW]; exact (Gr.refl _ _).alloc
   have B9 : Below w2.heap.size wr Bb := hG.below0 hs.size
   have hk : KeepD wr Bb := hG.keep True.intro
   have sz_w23 : w2.heap.size ≤ wr.heap.size := hs.size
   have nm_w23 : w1.heap.size < wr.heap.size := Bd.lt
   have Bf : Bx Bb (wr.heap.size) 34 #[.bool ge5a, .slice ae5a ne5a ce5a, .slice Ae5a Ne5a De5a] := by rw [hW]; exact (Bx.new0 _ _ _)
   have Cv := Bm.ap (g := wr.heap.size) (by omega)
   replace hs := hs.trans B9
   replace Bd := hG.bx Bd notMem0
   replace h1 := h1.keep hk
   replace Bk := Bk.keep hk
   replace Bm := Bm.mono PC.kept (hG.below0 (Nat.le_refl _))
   clear hW hG hk B9
   have hz_w23 : wr.heap.size < Bb.heap.size := Bf.lt
   with_reducible refine (pSub Bk h1 (SzQ.fit (HZ.out k (by omega))) (SzQ.fit sm)).mono ?_
   rintro e w24 ⟨_, rfl, h6, hb⟩
   obtain ⟨sh6, ah6, nh6, ch6, Ah6, Nh6, Ch6, rfl⟩ := h6.shape
   replace hs := bStep hs hb
   replace Bd := Bd.mono hb
   replace Bf := Bf.mono hb
   replace h1 := h1.mono hb
   replace Bk := Bk.mono hb
   replace Bm := Bm.mono PC.kept hb
   clear hb
   go_wp2_with fail
   refine Calls.abs ?_
   intro Bc hW
   have hG : Gr [] w24 Bc := by rw [hW]; exact (Gr.refl _ _).alloc
   have B9 : Below w2.heap.size w24 Bc := hG.below0 hs.size
   have hk : KeepD w24 Bc := hG.keep True.intro
   have sz_w25 : w2.heap.size ≤ w24.heap.size := hs.size
   have nm_w25 : w1.heap.size < w24.heap.size := Bd.lt
   have nx_w25 : wr.heap.size < w24.heap.size := Bf.lt
   have Cp : Bx Bc (w24.heap.size) 34 #[.bool sh6, .slice ah6 nh6 ch6, .slice Ah6 Nh6 Ch6] := by rw [hW]; exact (Bx.new0 _ _ _)
   have Cu := Bm.ap (g := w24.heap.size) (by omega)
   replace hs := hs.trans B9
   replace Bd := hG.bx Bd notMem0
   replace Bf := hG.bx Bf notMem0
   replace h1 := h1.keep hk
   replace Bk := Bk.keep hk
   replace h6 := h6.keep hk
   replace Bm := Bm.mono PC.kept (hG.below0 (Nat.le_refl _))
   clear hW hG hk B9
   have hz_w25 : w24.heap.size < Bc.heap.size := Cp.lt
   with_reducible refine (pMul h6 h6 (SzQ.fit (SzQ.sub (HZ.out k (by omega)) sm)) (SzQ.fit (SzQ.sub (HZ.out k (by omega)) sm))).mono ?_
   rintro e Be ⟨_, rfl, h7, hb⟩
   obtain ⟨sh7, ah7, nh7, ch7, Ah7, Nh7, Ch7, rfl⟩ := h7.shape
   replace hs := bStep hs hb
   replace Bd := Bd.mono hb
   replace Bf := Bf.mono hb
   replace Cp := Cp.mono hb
   replace h1 := h1.mono hb
   replace Bk := Bk.mono hb
   replace h6 := h6.mono hb
   replace Bm := Bm.mono PC.kept hb
   clear hb
   go_wp2_with (at_builtin; refine wpList.stop ?_)
   refine ⟨?_⟩
   refine wpList.abs ?_
   intro Ed hW
   have hG : Gr [] Be Ed := by rw [hW]; exact (Gr.refl _ _).alloc
   have B9 : Below w2.heap.size Be Ed := hG.below0 hs.size
   have hk : KeepD Be Ed := hG.keep True.intro
   have sz_w27 : w2.heap.size ≤ Be.heap.size := hs.size
   have nm_w27 : w1.heap.size < Be.heap.size := Bd.lt
   have nx_w27 : wr.heap.size < Be.heap.size := Bf.lt
   have nd_w27 : w24.heap.size < Be.heap.size := Cp.lt
   have Ee : Bx Ed (Be.heap.size) 34 #[.bool sh7, .slice ah7 nh7 ch7, .slice Ah7 Nh7 Ch7] := by rw [hW]; exact (Bx.new0 _ _ _)
   replace hs := hs.trans B9
   replace Bd := hG.bx Bd notMem0
   replace Bf := hG.bx Bf notMem0
   replace Cp := hG.bx Cp notMem0
   replace h1 := h1.keep hk
   replace Bk := Bk.keep hk
   replace h6 := h6.keep hk
   replace h7 := h7.keep hk
   replace Bm := Bm.mono PC.kept (hG.below0 (Nat.le_refl _))
   clear hW hG hk B9
   have hz_w27 : Be.heap.size < Ed.heap.size := Ee.lt
   obtain ⟨css, ho1, ho2, ho3, Cj⟩ := Bm
   refine wpList_append_lies _ rfl _ _ _ rfl w2.heap.size 34 i0 _ 3 56 Tryz.underlying27 hi hz0 hz1 hz2 rfl (by omega) _ _ css.flatten rfl Cj ⟨Be.heap.size, 0, none⟩ 1 1 [.bool sh7, .slice ah7 nh7 ch7, .slice Ah7 Nh7 Ch7] rfl rfl Ee.news ?_ (by omega) ?_ ?_ ?_ _ rfl ?_
   ·intro u hu; simp only [List.mem_cons, List.mem_nil_iff, or_false] at hu; rcases hu with rfl | rfl | rfl <;> rfl
   ·unfold maxLen; (try simp only [List.length_append, List.length_cons, List.length_nil]); omega
   ·(try simp only [List.length_append, List.length_cons, List.length_nil]); omega
   ·exact hs.size
   intro gou capou w28 En Cg hat hlt_
   have Do := KeepD.owns Cj Cg (by decide)
   have ho := owns_onlyT Cj Cg
   replace hs := hs.grown Cg hs.size (fun k hk => (Cj.lt k hk).1)
   replace Bm := OwnR.push' PC.kept ho1 ho2 ho3 (x := (nthQ L k - m) * (nthQ L k - m)) rfl ⟨_, _, _, rfl, h7⟩ (by simp) En Do
   replace Bd := Bd.grown Cg (fun e => by have := (Cj.lt _ e.symm).1; omega)
   have D7 := Cv.app hat Bf.lt
   replace Bf := Bf.grown Cg Cv.ne
   replace Cv := D7
   clear D7
   have D6 := Cu.app hat Cp.lt
   replace Cp := Cp.grown Cg Cu.ne
   replace Cu := D6
   clear D6
   replace h1 := h1.keep Do
   replace Bk := Bk.keep Do
   replace h6 := h6.keep Do
   replace h7 := h7.keep Do
   clear Do ho ho1 ho2 ho3 Cj En Cg hat hlt_ Ee
   go_wp2
   go_roundw
   case rel => exact ⟨k + 1, by omega, by go_num, hs, Bd, h1, (by rw [sqK_next (show k < L.length by omega)]; exact Bm)⟩
   all_goals first | (simp [intOf]; done) | (simp [intOf]; omega)
  ·have q3d : ((k : Int) < (L.length : Int)) = False := eq_false (by omega)
   obtain rfl : k = L.length := by omega
   have hR := Bm.rows
   clear Bm
   replace hs := bStep Et.out hs
   go_wp2
   go_ret
   exact ⟨_, rfl, hR, hs⟩
theorem al_Mean {v : Value} {L : List Rat} (w : World) (hl : Rows 3 34 PC w v L) (g1 : 1 ≤ L.length) (g20 : L.length ≤ 20) (hz : ∀ i, i < L.length → SzQ 1 (nthQ L i)) {m va : Rat} (hm : meanQ L = m) (hva : varQ L = va) : Calls Tryz.prog 13 #[v] w (Ret3 (fun w v => PV w v m) (fun w v => PV w v va) (fun _ v => v = .int .i64 0) w) := by
 obtain ⟨aL, kL, rfl, Dp, Dq, -⟩ := hl.toI.slice
 have HL := Lib.hid hl
 clear hl
 have sm : SzQ (20 * 1 + 101) m := hm ▸ mean_sz hz g1 g20
 obtain ⟨S, hS⟩ : ∃ S, sqK L m L.length = S := ⟨_, rfl⟩
 have lS : S.length = L.length := by rw [← hS, sqK_len L m (Nat.le_refl _)]
 have lS1 : S.length ≤ L.length := Nat.le_of_eq lS
 have lS2 : L.length ≤ S.length := Nat.le_of_eq lS.symm
 have sS : ∀ i, i < S.length → SzQ 300 (nthQ S i) := fun i hi => hS ▸ (sqK_sz hz sm (by omega)).mono (by omega)
 have hv2 : sumQ S S.length / ((S.length : Int) : Rat) = va := by subst hva hm hS; rfl
 have sva : SzQ 7000 va := by
  have := mean_sz sS (by omega) (by omega)
  rw [show meanQ S = va from hv2] at this
  exact this.mono (by omega)
 have HZ := Lib.hid hz
 have HM := Lib.hid (show sumQ L L.length / ((L.length : Int) : Rat) = m from hm)
 have HV := Lib.hid hv2
 have HS := Lib.hid hS
 have HSZ := Lib.hid sS
 clear hz hm hva lS hS sS hv2
 have hs := Below.refl w.heap.size w
 go_enter Tryz.func13, Tryz.ntmps13
 go_wp2_with fail
 refine Calls.abs ?_
 intro w1 hW
 have hG : Gr [] w w1 := by rw [hW]; exact (Gr.refl _ _).alloc.alloc
 have B9 : Below w.heap.size w w1 := hG.below0 hs.size
 have hk : KeepD w w1 := hG.keep True.intro
 have D3 : w.heap.size ≤ w.heap.size := hs.size
 have B8 : Bx w1 (w.heap.size) 34 #[.bool false, .slice none 0 0, .slice none 0 0] := by rw [hW]; exact ((Bx.new0 _ _ _).alloc _)
 have B6 : Bx w1 (w.heap.size + 1) 34 #[.bool false, .slice none 0 0, .slice none 0 0] := by rw [hW]; exact (Bx.new0 _ _ _)
 replace hs := hs.trans B9
 clear hW hG hk B9
 have D2 : w.heap.size + 1 < w1.heap.size := B6.lt
 with_reducible refine (al_cvL_in _ (HL.out.mono PC.kept hs) g1 (by omega)).mono ?_
 rintro e w2 ⟨rfl, hb⟩
 replace hs := bStep hs hb
 replace B8 := B8.mono hb
 replace B6 := B6.mono hb
 clear hb
 go_wp2_with fail
 with_reducible refine (al_mean _ (HL.out.mono PC.kept hs) g1 g20 (K := 1) (by decide) HZ.out HM.out).mono ?_
 rintro e w3 ⟨_, rfl, h1, hb⟩
 obtain ⟨C4, By, C2, C0, Br, Bv, Bt, rfl⟩ := h1.shape
 replace hs := bStep hs hb
 replace B8 := B8.mono hb
 replace B6 := B6.mono hb
 clear hb
 go_wp2_with fail
 with_reducible refine (al_squares _ (HL.out.mono PC.kept hs) g1 g20 (K := 1) (by decide) HZ.out HM.out sm).mono ?_
 rintro e w4 ⟨_, rfl, Dr, hb⟩
 rw [HS.out] at Dr
 obtain ⟨ahq2, khq2, rfl, hq21, hq22, -⟩ := Dr.toI.slice
 replace hs := bStep hs hb
 replace B8 := B8.mono hb
 replace B6 := B6.mono hb
 replace h1 := h1.mono hb
 clear hb
 go_wp2_with fail
 with_reducible refine (al_mean _ Dr (by omega) (by omega) (K := 300) (by decide) HSZ.out HV.out).mono ?_
 rintro e w5 ⟨_, rfl, h3, hb⟩
 obtain ⟨Ec, E0, E8, E2, Du, Dz, Dw, rfl⟩ := h3.shape
 replace hs := bStep hs hb
 replace B8 := B8.mono hb
 replace B6 := B6.mono hb
 replace h1 := h1.mono hb
 replace Dr := rowsJ PC.kept _ _ _ Dr hb
 clear hb
 have Cd : w5.cell? ⟨w.heap.size, 0, none⟩ = some (.bool false) := B8.at 0 rfl
 have Ce : w5.cell? ⟨w.heap.size, 1, none⟩ = some (.slice none 0 0) := B8.at 1 rfl
 have Cf : w5.cell? ⟨w.heap.size, 2, none⟩ = some (.slice none 0 0) := B8.at 2 rfl
 have Ek := B8.free
 have Ei : w.heap.size < w5.heap.size := B8.lt
 have Ca : w5.cell? ⟨w.heap.size + 1, 0, none⟩ = some (.bool false) := B6.at 0 rfl
 have Cb : w5.cell? ⟨w.heap.size + 1, 1, none⟩ = some (.slice none 0 0) := B6.at 1 rfl
 have Cc : w5.cell? ⟨w.heap.size + 1, 2, none⟩ = some (.slice none 0 0) := B6.at 2 rfl
 have E3 := B6.free
 have Dy : w.heap.size + 1 < w5.heap.size := B6.lt
 go_wp2
 clear Cd Ce Cf Ca Cb Cc Ek E3 Ei Dy
 clear Dr
 refine bodyPost.abs ?_
 intro w6 hW
 have hG : Gr [w.heap.size, w.heap.size + 1] w5 w6 := by rw [hW]; exact (Gr.refl _ _).set.set.set.set.set.set
 have Bn := hs.size
 have El := B8.lt
 have E7 := B6.lt
 have B9 : Below w.heap.size w5 w6 := hG.below2 hs.size (by first | omega | assumption) (by first | omega | assumption)
 have hk : KeepD w5 w6 := hG.keep ⟨⟨_, B8.ty, by decide⟩, ⟨_, B6.ty, by decide⟩, True.intro⟩
 have Co : Bx w6 (w.heap.size) 34 #[.bool C4, .slice By C2 C0, .slice Br Bv Bt] := by rw [hW]; exact (Bx.far (Bx.far (Bx.far (Bx.set (Bx.set (Bx.set B8 0 _ rfl) 1 _ rfl) 2 _ rfl) (by dsimp only; omega) _) (by dsimp only; omega) _) (by dsimp only; omega) _)
 have Ck : Bx w6 (w.heap.size + 1) 34 #[.bool Ec, .slice E0 E8 E2, .slice Du Dz Dw] := by rw [hW]; exact (Bx.set (Bx.set (Bx.set (Bx.far (Bx.far (Bx.far B6 (by dsimp only; omega) _) (by dsimp only; omega) _) (by dsimp only; omega) _) 0 _ rfl) 1 _ rfl) 2 _ rfl)
 replace hs := hs.trans B9
 replace B8 := Co
 clear Co
 replace B6 := Ck
 clear Ck
 replace h1 := h1.keep hk
 replace h3 := h3.keep hk
 clear hW hG hk B9 Bn El E7
 have Cd : w6.cell? ⟨w.heap.size, 0, none⟩ = some (.bool C4) := B8.at 0 rfl
 have Ce : w6.cell? ⟨w.heap.size, 1, none⟩ = some (.slice By C2 C0) := B8.at 1 rfl
 have Cf : w6.cell? ⟨w.heap.size, 2, none⟩ = some (.slice Br Bv Bt) := B8.at 2 rfl
 have Ca : w6.cell? ⟨w.heap.size + 1, 0, none⟩ = some (.bool Ec) := B6.at 0 rfl
 have Cb : w6.cell? ⟨w.heap.size + 1, 1, none⟩ = some (.slice E0 E8 E2) := B6.at 1 rfl
 have Cc : w6.cell? ⟨w.heap.size + 1, 2, none⟩ = some (.slice Du Dz Dw) := B6.at 2 rfl
 exact bodyPost_ret (v := .tuple #[.agg #[.bool C4, .slice By C2 C0, .slice Br Bv Bt], .agg #[.bool Ec, .slice E0 E8 E2, .slice Du Dz Dw], .int .i64 0]) (by simp [results, Tryz.results13, go_sem, Cd, Ce, Cf, Ca, Cb, Cc]) rfl ⟨_, _, _, rfl, h1, h3, rfl, hs⟩
theorem al_sorted {v : Value} {L : List Rat} (w : World) (hl : Rows 3 34 PC w v L) (g1 : 1 ≤ L.length) (g2 : L.length ≤ 1000) (hz : ∀ i, i < L.length → SzQ 100000 (nthQ L i)) : Calls Tryz.prog 26 #[v] w (Ret1 (fun w v => Rows 3 34 PC w v (srtQ L)) w) := by
 have HZ := Lib.hid hz
 clear hz
 obtain ⟨Ch, Eq, Ep, rfl, Dp, Dq, -⟩ := hl.open_ (by omega)
 have hs := Below.refl w.heap.size w
 go_enter Tryz.func26, Tryz.ntmps26
 go_wp2_with fail
 with_reducible refine (sl_CloneQ _ hl g1 g2).mono ?_
 rintro e w1 ⟨v1, rfl, hO, hb⟩
 replace hs := bStep hs hb
 clear hb hl
 go_wp2_with fail
 with_reducible refine (sl_SortQ _ hO g1 g2 HZ.out).mono ?_
 rintro e w2 ⟨rfl, hO2, hb⟩
 replace hs := hs.trans hb
 clear hb hO
 have hR := hO2.rows
 clear hO2
 go_wp2
 go_ret
 exact ⟨_, rfl, hR, hs⟩
theorem al_Limit_few {v vu vc : Value} {L : List Rat} {u c : Rat} (w : World) (hl : Rows 3 34 PC w v L) (hu : PV w vu u) (su : SzQ 1 u) (hc : PV w vc c) (sc : SzQ 1 c) (g1 : ¬ (1 ≤ L.length ∧ L.length ≤ 64)) : Calls Tryz.prog 7 #[v, vu, vc] w (RetPE w 0 4) := by
 obtain ⟨aL, kL, rfl, Dp, Dq, -⟩ := hl.toI.slice
 have HL := Lib.hid hl
 clear hl
 obtain ⟨Dn, De, Dk, Dh, D5, Dc, D9, rfl⟩ := hu.shape
 obtain ⟨Dm, Dd, Dj, Df, D4, Db, D8, rfl⟩ := hc.shape
 have hs := Below.refl w.heap.size w
 go_enter Tryz.func7, Tryz.ntmps7
 go_wp2_with fail
 refine Calls.abs ?_
 intro w1 hW
 have hG : Gr [] w w1 := by rw [hW]; exact (Gr.refl _ _).alloc.alloc.alloc
 have B9 : Below w.heap.size w w1 := hG.below0 hs.size
 have hk : KeepD w w1 := hG.keep True.intro
 have D3 : w.heap.size ≤ w.heap.size := hs.size
 have B7 : Bx w1 (w.heap.size) 34 #[.bool Dn, .slice De Dk Dh, .slice D5 Dc D9] := by rw [hW]; exact (((Bx.new0 _ _ _).alloc _).alloc _)
 have B0 : Bx w1 (w.heap.size + 1) 34 #[.bool Dm, .slice Dd Dj Df, .slice D4 Db D8] := by rw [hW]; exact ((Bx.new0 _ _ _).alloc _)
 have Blk : Bx w1 (w.heap.size + 1 + 1) 34 #[.bool false, .slice none 0 0, .slice none 0 0] := by rw [hW]; exact (Bx.new0 _ _ _)
 replace hs := hs.trans B9
 replace hu := hu.keep hk
 replace hc := hc.keep hk
 clear hW hG hk B9
 have D2 : w.heap.size + 1 + 1 < w1.heap.size := Blk.lt
 with_reducible refine (al_cvL_all (e := 4) _ (HL.out.mono PC.kept hs) (if_pos (by omega))).mono ?_
 rintro e w2 ⟨rfl, hb⟩
 replace hs := bStep hs hb
 replace B7 := B7.mono hb
 replace B0 := B0.mono hb
 replace Blk := Blk.mono hb
 replace hu := hu.mono hb
 replace hc := hc.mono hb
 clear hb
 have Bh : w2.cell? ⟨w.heap.size + 1 + 1, 0, none⟩ = some (.bool false) := Blk.at 0 rfl
 have Bi : w2.cell? ⟨w.heap.size + 1 + 1, 1, none⟩ = some (.slice none 0 0) := Blk.at 1 rfl
 have Bj : w2.cell? ⟨w.heap.size + 1 + 1, 2, none⟩ = some (.slice none 0 0) := Blk.at 2 rfl
 have fk := Blk.free
 have Lk : w.heap.size + 1 + 1 < w2.heap.size := Blk.lt
 go_wp2
 clear Bh Bi Bj fk Lk
 refine bodyPost.abs ?_
 intro w3 hW
 have hG : Gr [w.heap.size + 1 + 1] w2 w3 := by rw [hW]; exact (Gr.refl _ _).set.set.set
 have Bn := hs.size
 have lk := Blk.lt
 have B9 : Below w.heap.size w2 w3 := hG.below1 hs.size (by first | omega | assumption)
 have hk : KeepD w2 w3 := hG.keep ⟨⟨_, Blk.ty, by decide⟩, True.intro⟩
 have C6 : Bx w3 (w.heap.size + 1 + 1) 34 #[.bool false, .slice none 0 0, .slice none 0 0] := by rw [hW]; exact Blk.set3
 replace hs := hs.trans B9
 replace B7 := hG.bx B7 (notMem1 (by omega))
 replace B0 := hG.bx B0 (notMem1 (by omega))
 replace Blk := C6
 clear C6
 replace hu := hu.keep hk
 replace hc := hc.keep hk
 clear hW hG hk B9 Bn lk
 have Bh : w3.cell? ⟨w.heap.size + 1 + 1, 0, none⟩ = some (.bool false) := Blk.at 0 rfl
 have Bi : w3.cell? ⟨w.heap.size + 1 + 1, 1, none⟩ = some (.slice none 0 0) := Blk.at 1 rfl
 have Bj : w3.cell? ⟨w.heap.size + 1 + 1, 2, none⟩ = some (.slice none 0 0) := Blk.at 2 rfl
 exact bodyPost_ret (v := .tuple #[.agg #[.bool false, .slice none 0 0, .slice none 0 0], .int .i64 4]) (by simp [results, Tryz.results7, go_sem, Bh, Bi, Bj]) rfl ⟨_, rfl, (PV.zero _), hs⟩
theorem al_Limit_rank {v vu vc : Value} {L : List Rat} {u c : Rat} (w : World) (hl : Rows 3 34 PC w v L) (hu : PV w vu u) (su : SzQ 1 u) (hc : PV w vc c) (sc : SzQ 1 c) (g1 : 1 ≤ L.length) (g20 : L.length ≤ 64) {E : Int} (hE : rkEr L.length u c = E) (hn : ¬ E = 0) : Calls Tryz.prog 7 #[v, vu, vc] w (RetPE w 0 E) := by
 obtain ⟨aL, kL, rfl, Dp, Dq, -⟩ := hl.toI.slice
 have HL := Lib.hid hl
 clear hl
 obtain ⟨Dn, De, Dk, Dh, D5, Dc, D9, rfl⟩ := hu.shape
 obtain ⟨Dm, Dd, Dj, Df, D4, Db, D8, rfl⟩ := hc.shape
 have HE := Lib.hid hE
 have Dx := Lib.hid hn
 clear hE hn
 obtain ⟨r, hr⟩ : ∃ r : Int, rkV L.length u c = r := ⟨_, rfl⟩
 have HR := Lib.hid hr
 clear hr
 have hs := Below.refl w.heap.size w
 go_enter Tryz.func7, Tryz.ntmps7
 go_wp2_with fail
 refine Calls.abs ?_
 intro w1 hW
 have hG : Gr [] w w1 := by rw [hW]; exact (Gr.refl _ _).alloc.alloc.alloc
 have B9 : Below w.heap.size w w1 := hG.below0 hs.size
 have hk : KeepD w w1 := hG.keep True.intro
 have D3 : w.heap.size ≤ w.heap.size := hs.size
 have B7 : Bx w1 (w.heap.size) 34 #[.bool Dn, .slice De Dk Dh, .slice D5 Dc D9] := by rw [hW]; exact (((Bx.new0 _ _ _).alloc _).alloc _)
 have B0 : Bx w1 (w.heap.size + 1) 34 #[.bool Dm, .slice Dd Dj Df, .slice D4 Db D8] := by rw [hW]; exact ((Bx.new0 _ _ _).alloc _)
 have Blk : Bx w1 (w.heap.size + 1 + 1) 34 #[.bool false, .slice none 0 0, .slice none 0 0] := by rw [hW]; exact (Bx.new0 _ _ _)
 replace hs := hs.trans B9
 replace hu := hu.keep hk
 replace hc := hc.keep hk
 clear hW hG hk B9
 have D2 : w.heap.size + 1 + 1 < w1.heap.size := Blk.lt
 with_reducible refine (al_cvL_all (e := 0) _ (HL.out.mono PC.kept hs) (if_neg (by omega))).mono ?_
 rintro e w2 ⟨rfl, hb⟩
 replace hs := bStep hs hb
 replace B7 := B7.mono hb
 replace B0 := B0.mono hb
 replace Blk := Blk.mono hb
 replace hu := hu.mono hb
 replace hc := hc.mono hb
 clear hb
 have Cl : w2.cell? ⟨w.heap.size, 0, none⟩ = some (.bool Dn) := B7.at 0 rfl
 have Cm : w2.cell? ⟨w.heap.size, 1, none⟩ = some (.slice De Dk Dh) := B7.at 1 rfl
 have Cn : w2.cell? ⟨w.heap.size, 2, none⟩ = some (.slice D5 Dc D9) := B7.at 2 rfl
 have Da : w.heap.size < w2.heap.size := B7.lt
 have Bo : w2.cell? ⟨w.heap.size + 1, 0, none⟩ = some (.bool Dm) := B0.at 0 rfl
 have Bp : w2.cell? ⟨w.heap.size + 1, 1, none⟩ = some (.slice Dd Dj Df) := B0.at 1 rfl
 have Bq : w2.cell? ⟨w.heap.size + 1, 2, none⟩ = some (.slice D4 Db D8) := B0.at 2 rfl
 have C9 : w.heap.size + 1 < w2.heap.size := B0.lt
 go_wp2_with fail
 clear Cl Cm Cn Bo Bp Bq Da C9
 with_reducible refine (al_Rank_all _ hu su hc sc HR.out HE.out).mono ?_
 rintro e w3 ⟨rfl, hb⟩
 replace hs := bStep hs hb
 replace B7 := B7.mono hb
 replace B0 := B0.mono hb
 replace Blk := Blk.mono hb
 replace hu := hu.mono hb
 replace hc := hc.mono hb
 clear hb
 have q1 : ¬ (E = 0) := Dx.out
 have q1b : (E == 0) = false := beq_eq_false_iff_ne.2 (by omega)
 have q1n : (E != 0) = true := bne_iff_ne.2 (by omega)
 have q1H := Lib.hid q1
 clear q1
 have Bh : w3.cell? ⟨w.heap.size + 1 + 1, 0, none⟩ = some (.bool false) := Blk.at 0 rfl
 have Bi : w3.cell? ⟨w.heap.size + 1 + 1, 1, none⟩ = some (.slice none 0 0) := Blk.at 1 rfl
 have Bj : w3.cell? ⟨w.heap.size + 1 + 1, 2, none⟩ = some (.slice none 0 0) := Blk.at 2 rfl
 have fk := Blk.free
 have Lk : w.heap.size + 1 + 1 < w3.heap.size := Blk.lt
 go_wp2
 clear Bh Bi Bj fk Lk
 refine bodyPost.abs ?_
 intro w4 hW
 have hG : Gr [w.heap.size + 1 + 1] w3 w4 := by rw [hW]; exact (Gr.refl _ _).set.set.set
 have Bn := hs.size
 have lk := Blk.lt
 have B9 : Below w.heap.size w3 w4 := hG.below1 hs.size (by first | omega | assumption)
 have hk : KeepD w3 w4 := hG.keep ⟨⟨_, Blk.ty, by decide⟩, True.intro⟩
 have C6 : Bx w4 (w.heap.size + 1 + 1) 34 #[.bool false, .slice none 0 0, .slice none 0 0] := by rw [hW]; exact Blk.set3
 replace hs := hs.trans B9
 replace B7 := hG.bx B7 (notMem1 (by omega))
 replace B0 := hG.bx B0 (notMem1 (by omega))
 replace Blk := C6
 clear C6
 replace hu := hu.keep hk
 replace hc := hc.keep hk
 clear hW hG hk B9 Bn lk
 have Bh : w4.cell? ⟨w.heap.size + 1 + 1, 0, none⟩ = some (.bool false) := Blk.at 0 rfl
 have Bi : w4.cell? ⟨w.heap.size + 1 + 1, 1, none⟩ = some (.slice none 0 0) := Blk.at 1 rfl
 have Bj : w4.cell? ⟨w.heap.size + 1 + 1, 2, none⟩ = some (.slice none 0 0) := Blk.at 2 rfl
 exact bodyPost_ret (v := .tuple #[.agg #[.bool false, .slice none 0 0, .slice none 0 0], .int .i64 E]) (by simp [results, Tryz.results7, go_sem, Bh, Bi, Bj]) rfl ⟨_, rfl, (PV.zero _), hs⟩
theorem al_Limit_ok {v vu vc : Value} {L : List Rat} {u c : Rat} (w : World) (hl : Rows 3 34 PC w v L) (hu : PV w vu u) (su : SzQ 1 u) (hc : PV w vc c) (sc : SzQ 1 c) (g1 : 1 ≤ L.length) (g20 : L.length ≤ 64) (hE : rkEr L.length u c = 0) {r : Nat} (hr : rkV L.length u c = (r : Int)) (hz : ∀ i, i < L.length → SzQ 100000 (nthQ L i)) {q : Rat} (hq : ordQ L (r - 1) = q) : Calls Tryz.prog 7 #[v, vu, vc] w (RetPE w q 0) := by
 obtain ⟨aL, kL, rfl, Dp, Dq, -⟩ := hl.toI.slice
 have HL := Lib.hid hl
 clear hl
 obtain ⟨Dn, De, Dk, Dh, D5, Dc, D9, rfl⟩ := hu.shape
 obtain ⟨Dm, Dd, Dj, Df, D4, Db, D8, rfl⟩ := hc.shape
 obtain ⟨r1, r2⟩ := rk_range g1 g20 hE hr
 obtain ⟨S, hS⟩ : ∃ S, srtQ L = S := ⟨_, rfl⟩
 have lS1 : S.length ≤ L.length := by rw [← hS, srtQ_len]; exact Nat.le_refl _
 have lS2 : L.length ≤ S.length := by rw [← hS, srtQ_len]; exact Nat.le_refl _
 have HSZ := Lib.hid (show ∀ i, i < S.length → SzQ 100000 (nthQ S i) from fun i hi => hS ▸ srt_sz hz (hS.symm ▸ hi))
 have HS := Lib.hid hS
 have HE := Lib.hid hE
 have HR := Lib.hid hr
 have HZL := Lib.hid hz
 have HQ := Lib.hid hq
 clear hS hE hr hz hq
 have hs := Below.refl w.heap.size w
 go_enter Tryz.func7, Tryz.ntmps7
 go_wp2_with fail
 refine Calls.abs ?_
 intro w1 hW
 have hG : Gr [] w w1 := by rw [hW]; exact (Gr.refl _ _).alloc.alloc.alloc
 have B9 : Below w.heap.size w w1 := hG.below0 hs.size
 have hk : KeepD w w1 := hG.keep True.intro
 have D3 : w.heap.size ≤ w.heap.size := hs.size
 have B7 : Bx w1 (w.heap.size) 34 #[.bool Dn, .slice De Dk Dh, .slice D5 Dc D9] := by rw [hW]; exact (((Bx.new0 _ _ _).alloc _).alloc _)
 have B0 : Bx w1 (w.heap.size + 1) 34 #[.bool Dm, .slice Dd Dj Df, .slice D4 Db D8] := by rw [hW]; exact ((Bx.new0 _ _ _).alloc _)
 have Blk : Bx w1 (w.heap.size + 1 + 1) 34 #[.bool false, .slice none 0 0, .slice none 0 0] := by rw [hW]; exact (Bx.new0 _ _ _)
 replace hs := hs.trans B9
 replace hu := hu.keep hk
 replace hc := hc.keep hk
 clear hW hG hk B9
 have D2 : w.heap.size + 1 + 1 < w1.heap.size := Blk.lt
 with_reducible refine (al_cvL_all (e := 0) _ (HL.out.mono PC.kept hs) (if_neg (by omega))).mono ?_
 rintro e w2 ⟨rfl, hb⟩
 replace hs := bStep hs hb
 replace B7 := B7.mono hb
 replace B0 := B0.mono hb
 replace Blk := Blk.mono hb
 replace hu := hu.mono hb
 replace hc := hc.mono hb
 clear hb
 have Cl : w2.cell? ⟨w.heap.size, 0, none⟩ = some (.bool Dn) := B7.at 0 rfl
 have Cm : w2.cell? ⟨w.heap.size, 1, none⟩ = some (.slice De Dk Dh) := B7.at 1 rfl
 have Cn : w2.cell? ⟨w.heap.size, 2, none⟩ = some (.slice D5 Dc D9) := B7.at 2 rfl
 have Da : w.heap.size < w2.heap.size := B7.lt
 have Bo : w2.cell? ⟨w.heap.size + 1, 0, none⟩ = some (.bool Dm) := B0.at 0 rfl
 have Bp : w2.cell? ⟨w.heap.size + 1, 1, none⟩ = some (.slice Dd Dj Df) := B0.at 1 rfl
 have Bq : w2.cell? ⟨w.heap.size + 1, 2, none⟩ = some (.slice D4 Db D8) := B0.at 2 rfl
 have C9 : w.heap.size + 1 < w2.heap.size := B0.lt
 go_wp2_with fail
 clear Cl Cm Cn Bo Bp Bq Da C9
 with_reducible refine (al_Rank_all _ hu su hc sc HR.out HE.out).mono ?_
 rintro e w3 ⟨rfl, hb⟩
 replace hs := bStep hs hb
 replace B7 := B7.mono hb
 replace B0 := B0.mono hb
 replace Blk := Blk.mono hb
 replace hu := hu.mono hb
 replace hc := hc.mono hb
 clear hb
 go_wp2_with fail
 with_reducible refine (al_sorted _ (HL.out.mono PC.kept hs) g1 (by omega) HZL.out).mono ?_
 rintro e w4 ⟨_, rfl, Em, hb⟩
 rw [HS.out] at Em
 obtain ⟨bhS1, ohS1, khS1, rfl, hS11, hS12, -⟩ := Em.open_ (by omega)
 replace hs := bStep hs hb
 replace B7 := B7.mono hb
 replace B0 := B0.mono hb
 replace Blk := Blk.mono hb
 replace hu := hu.mono hb
 replace hc := hc.mono hb
 clear hb
 have SW2a := IntWalk.i64_in ((r : Int) - 1) (by omega)
 have SW2b : (0 : Int) ≤ (r : Int) - 1 := by omega
 have SW2c : ((r : Int) - 1).toNat = (r - 1) := by omega
 have SW2d : (r : Int) - 1 < (S.length : Int) := by omega
 have SW2e : (1 : Int) ≤ (r : Int) := by omega
 have SW2f : (r : Int) < (S.length : Int) + 1 := by omega
 have BI3a : (r - 1) < S.length := by omega
 have BI3b : ((r : Int) - 1 : Int) < (S.length : Int) := by omega
 obtain ⟨D0, Cy, D1, Cz, Ct, Cx, Cw, Ef, Eg, Eh, C8, le4⟩ := rowP_at Em (show (r - 1) < S.length by omega)
 have Bh : w4.cell? ⟨w.heap.size + 1 + 1, 0, none⟩ = some (.bool false) := Blk.at 0 rfl
 have Bi : w4.cell? ⟨w.heap.size + 1 + 1, 1, none⟩ = some (.slice none 0 0) := Blk.at 1 rfl
 have Bj : w4.cell? ⟨w.heap.size + 1 + 1, 2, none⟩ = some (.slice none 0 0) := Blk.at 2 rfl
 have fk := Blk.free
 have Lk : w.heap.size + 1 + 1 < w4.heap.size := Blk.lt
 go_wp2
 clear Bh Bi Bj fk Lk le4 Ef Eg Eh
 clear Em
 refine bodyPost.abs ?_
 intro w5 hW
 have hG : Gr [w.heap.size + 1 + 1] w4 w5 := by rw [hW]; exact (Gr.refl _ _).set.set.set
 have Bn := hs.size
 have lk := Blk.lt
 have B9 : Below w.heap.size w4 w5 := hG.below1 hs.size (by first | omega | assumption)
 have hk : KeepD w4 w5 := hG.keep ⟨⟨_, Blk.ty, by decide⟩, True.intro⟩
 have C6 : Bx w5 (w.heap.size + 1 + 1) 34 #[.bool D0, .slice Cy D1 Cz, .slice Ct Cx Cw] := by rw [hW]; exact Blk.set3
 replace hs := hs.trans B9
 replace B7 := hG.bx B7 (notMem1 (by omega))
 replace B0 := hG.bx B0 (notMem1 (by omega))
 replace Blk := C6
 clear C6
 replace hu := hu.keep hk
 replace hc := hc.keep hk
 replace C8 := C8.keep hk
 clear hW hG hk B9 Bn lk
 have Bh : w5.cell? ⟨w.heap.size + 1 + 1, 0, none⟩ = some (.bool D0) := Blk.at 0 rfl
 have Bi : w5.cell? ⟨w.heap.size + 1 + 1, 1, none⟩ = some (.slice Cy D1 Cz) := Blk.at 1 rfl
 have Bj : w5.cell? ⟨w.heap.size + 1 + 1, 2, none⟩ = some (.slice Ct Cx Cw) := Blk.at 2 rfl
 exact bodyPost_ret (v := .tuple #[.agg #[.bool D0, .slice Cy D1 Cz, .slice Ct Cx Cw], .int .i64 0]) (by simp [results, Tryz.results7, go_sem, Bh, Bi, Bj]) rfl ⟨_, rfl, C8.of_eq (by rw [← HS.out]; exact HQ.out), hs⟩
end Go.Proofs.YtlmemilmhdhgbaaGreat
namespace Go.Proofs.YtlmemilmhdhgbaaGreat
open Go.RowKit Dg
theorem len_pos {L : List Rat} (h1 : 1 ≤ L.length) : 0 < ((L.length : Int) : Rat) := by
  have : (0 : Int) < L.length := by omega
  exact_mod_cast this
def LimOk (L : List Rat) (u c q : Rat) : Prop := 1 ≤ L.length ∧ L.length ≤ 64 ∧ rkEr L.length u c = 0 ∧ (∃ r : Nat, rkV L.length u c = (r : Int) ∧ ordQ L (r - 1) = q) ∧ ∀ i, i < L.length → SzQ 100000 (nthQ L i)
theorem LimOk.any {L : List Rat} {u c : Rat} (h1 : 1 ≤ L.length) (h2 : L.length ≤ 64) (hE : rkEr L.length u c = 0) (hz : ∀ i, i < L.length → SzQ 100000 (nthQ L i)) : ∃ r : Nat, (rkV L.length u c = (r : Int) ∧ r - 1 < L.length) ∧ LimOk L u c (ordQ L (r - 1)) := by
  have h0 : ∃ r : Nat, rkV L.length u c = (r : Int) := by
    unfold rkV
    split
    · exact ⟨0, rfl⟩
    · exact ⟨_, rfl⟩
  obtain ⟨r, hr⟩ := h0
  have := rk_range h1 h2 hE hr
  exact ⟨r, ⟨hr, by omega⟩, h1, h2, hE, ⟨r, hr, rfl⟩, hz⟩
end Go.Proofs.YtlmemilmhdhgbaaGreat
