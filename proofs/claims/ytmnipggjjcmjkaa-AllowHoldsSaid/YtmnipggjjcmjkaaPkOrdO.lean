/-
  Mean and variance, the place of the allowable: plain lists. slices.Clone at fractions, by the shelf's contract.
-/
import Derived.Test.YtmnipggjjcmjkaaSortQO
import Derived.Test.YtmnipggjjcmjkaaAlT1O
set_option linter.unusedSimpArgs false
set_option linter.unusedVariables false
set_option maxRecDepth 100000
set_option maxHeartbeats 4000000
namespace Go.Proofs.Ytmnipggjjcmjkaa
open Go.RowKit Dg
theorem al_wholeN {l : Nat} {n : Rat} (hn : ((l : Int) : Rat) = n) (w : World) (h : l ≤ 4294967295) : Calls Try.prog 53 #[.int .i64 (l : Int)] w (RetP w n) := hn ▸ al_whole (l : Int) w (by omega) (by omega)
theorem srt_sz {L : List Rat} {K : Nat} (hz : ∀ i, i < L.length → SzQ K (nthQ L i)) {i : Nat} (h : i < (srtQ L).length) : SzQ K (nthQ (srtQ L) i) := by
  have hm := (srtQ_perm L).mem_iff.1 (List.mem_of_getElem? (nthQ_some h))
  obtain ⟨j, hj, e⟩ := List.getElem_of_mem hm
  have h2 := hz j hj
  have h3 := nthQ_some hj
  rw [List.getElem?_eq_getElem hj] at h3
  injection h3 with h3
  rw [← h3, e] at h2
  exact h2
theorem rk_range {L : List Rat} {u c : Rat} {r : Nat} (h1 : 1 ≤ L.length) (h20 : L.length ≤ 64) (hE : rkEr L.length u c = 0) (hr : rkV L.length u c = (r : Int)) : 1 ≤ r ∧ r ≤ L.length := by
  unfold rkEr at hE
  unfold rkV at hr
  by_cases h : rkWrong L.length u c
  · rw [if_pos h] at hE; cases hE
  · rw [if_neg h] at hE hr
    have hle := rkF_le (1 - u) c (L.length : Int).toNat (L.length : Int).toNat
    by_cases h0 : rkF (1 - u) (L.length : Int).toNat c (L.length : Int).toNat = 0
    · rw [h0] at hE; cases hE
    · omega
theorem sl_CloneQ {v : Value} {L : List Rat} (w : World) (hl : Rows 3 26 PC w v L) (h1 : 1 ≤ L.length) (h2 : L.length ≤ 1000) : Calls Try.prog 67 #[v] w (Ret1 (fun w' v => OwnR w.heap.size 26 3 PC w' v L) w) := by
  obtain ⟨b, o, c, rfl, _, _, _⟩ := hl.open_ (by omega)
  obtain ⟨i0, hi, hz, hsz, hby⟩ := alP_parts
  obtain ⟨dss, d1, d2, d3, d4, d5⟩ := rows_flat hl
  have hcon := AnyE.slices_Clone Try.cloneL i0 _ 3 56 hi hz hsz hby (by kernel_rfl) (by decide) Try.sizeOf26 b o L.length c dss.flatten w (by rw [flat_length _ d2, d1]) (by unfold maxLen; omega) (by omega) (fun j u hu => by have := d5 j u hu; rwa [add_plain] at this) d4
  change Calls Try.prog 67 _ _ _ at hcon
  refine hcon.mono ?_
  rintro e w' ⟨v', rfl, hown, _, hb⟩
  exact ⟨v', rfl, ⟨dss, d1, d2, fun i cs x hc hx => PC.kept _ _ _ _ (d3 i cs x hc hx) (.of_below hb), hown⟩, hb⟩
end Go.Proofs.Ytmnipggjjcmjkaa
namespace Go.Proofs.Ytmnipggjjcmjkaa
open Go.RowKit Dg
attribute [local go_sem ↓] Go.wp_at_zero Go.wp_at_succ
theorem al_cvL_few {v : Value} {L : List Rat} (w : World) (hl : Rows 3 26 PC w v L) (h : L.length < 1) : Calls Try.prog 60 #[v] w (RetV w (.int .i64 4)) := by
 obtain ⟨ao, cap, rfl, hc1, hc2, hc3⟩ := hl.toI.slice
 clear hl
 have hs := Below.refl w.heap.size w
 go_enter Try.func60, Try.ntmps60
 have q1 : L.length < 1 := (by omega)
 have q1d : ((L.length : Int) < 1) = True := eq_true (by omega)
 go_wp2
 go_ret
 exact ⟨rfl, hs⟩
theorem al_cvL_many {v : Value} {L : List Rat} (w : World) (hl : Rows 3 26 PC w v L) (h : 64 < L.length) : Calls Try.prog 60 #[v] w (RetV w (.int .i64 4)) := by
 obtain ⟨ao, cap, rfl, hc1, hc2, hc3⟩ := hl.toI.slice
 clear hl
 have hs := Below.refl w.heap.size w
 go_enter Try.func60, Try.ntmps60
 have q1 : ¬ (L.length < 1) := (by omega)
 have q1d : ((L.length : Int) < 1) = False := eq_false (by omega)
 have q2 : 64 < L.length := (by omega)
 have q2d : ((64 : Int) < (L.length : Int)) = True := eq_true (by omega)
 go_wp2
 go_ret
 exact ⟨rfl, hs⟩
theorem al_cvL_in {v : Value} {L : List Rat} (w : World) (hl : Rows 3 26 PC w v L) (h : 1 ≤ L.length) (h2 : L.length ≤ 64) : Calls Try.prog 60 #[v] w (RetV w (.int .i64 0)) := by
 obtain ⟨ao, cap, rfl, hc1, hc2, hc3⟩ := hl.toI.slice
 clear hl
 have hs := Below.refl w.heap.size w
 go_enter Try.func60, Try.ntmps60
 have q1 : ¬ (L.length < 1) := (by omega)
 have q1d : ((L.length : Int) < 1) = False := eq_false (by omega)
 have q2 : ¬ (64 < L.length) := (by omega)
 have q2d : ((64 : Int) < (L.length : Int)) = False := eq_false (by omega)
 go_wp2
 go_ret
 exact ⟨rfl, hs⟩
theorem al_cvL_all {v : Value} {L : List Rat} (w : World) (hl : Rows 3 26 PC w v L) {e : Int} (he : (if L.length < 1 ∨ 64 < L.length then (4 : Int) else 0) = e) : Calls Try.prog 60 #[v] w (RetV w (.int .i64 e)) := by
 subst he
 by_cases h1 : L.length < 1
 ·rw [if_pos (.inl h1)]; exact al_cvL_few w hl h1
 ·by_cases h2 : 64 < L.length
  ·rw [if_pos (.inr h2)]; exact al_cvL_many w hl h2
  ·rw [if_neg (by omega)]; exact al_cvL_in w hl (by omega) (by omega)
theorem al_sorted {v : Value} {L : List Rat} (w : World) (hl : Rows 3 26 PC w v L) (g1 : 1 ≤ L.length) (g2 : L.length ≤ 1000) (hz : ∀ i, i < L.length → SzQ 100000 (nthQ L i)) : Calls Try.prog 61 #[v] w (Ret1 (fun w v => Rows 3 26 PC w v (srtQ L)) w) := by
 have HZ := Lib.hid hz
 clear hz
 obtain ⟨bhl, ohl, khl, rfl, hl1, hl2, -⟩ := hl.open_ (by omega)
 have hs := Below.refl w.heap.size w
 go_enter Try.func61, Try.ntmps61
 go_wp2_with fail
 with_reducible refine (sl_CloneQ _ hl g1 g2).mono ?_
 rintro e w1 ⟨v1, rfl, hO, hb⟩
 replace hs := bStep hs hb
 clear hb hl
 go_wp2_with fail
 with_reducible refine (sl_SortQ _ hO g1 g2 HZ.out).mono ?_
 rintro e w2 ⟨rfl, hO2, hb⟩
 replace hs := hs.trans hb
 clear hb hO
 have hR := hO2.rows
 clear hO2
 go_wp2
 go_ret
 exact ⟨_, rfl, hR, hs⟩
theorem al_Limit_ok {v vu vc : Value} {L : List Rat} {u c : Rat} (w : World) (hl : Rows 3 26 PC w v L) (hu : PV w vu u) (su : SzQ 1 u) (hc : PV w vc c) (sc : SzQ 1 c) (g1 : 1 ≤ L.length) (g20 : L.length ≤ 64) (hE : rkEr L.length u c = 0) {r : Nat} (hr : rkV L.length u c = (r : Int)) (hz : ∀ i, i < L.length → SzQ 100000 (nthQ L i)) {q : Rat} (hq : ordQ L (r - 1) = q) : Calls Try.prog 32 #[v, vu, vc] w (RetPE w q 0) := by
 obtain ⟨aL, kL, rfl, hl1, hl2, -⟩ := hl.toI.slice
 have HL := Lib.hid hl
 clear hl
 obtain ⟨shu, ahu, nhu, chu, Ahu, Nhu, Chu, rfl⟩ := hu.shape
 obtain ⟨shc, ahc, nhc, chc, Ahc, Nhc, Chc, rfl⟩ := hc.shape
 obtain ⟨r1, r2⟩ := rk_range g1 g20 hE hr
 obtain ⟨S, hS⟩ : ∃ S, srtQ L = S := ⟨_, rfl⟩
 have lS1 : S.length ≤ L.length := by rw [← hS, srtQ_len]; exact Nat.le_refl _
 have lS2 : L.length ≤ S.length := by rw [← hS, srtQ_len]; exact Nat.le_refl _
 have HSZ := Lib.hid (show ∀ i, i < S.length → SzQ 100000 (nthQ S i) from fun i hi => hS ▸ srt_sz hz (hS.symm ▸ hi))
 have HS := Lib.hid hS
 have HE := Lib.hid hE
 have HR := Lib.hid hr
 have HZL := Lib.hid hz
 have HQ := Lib.hid hq
 clear hS hE hr hz hq
 have hs := Below.refl w.heap.size w
 go_enter Try.func32, Try.ntmps32
 go_wp2_with fail
 refine Calls.abs ?_
 intro w1 hW
 have hG : Gr [] w w1 := by rw [hW]; exact (Gr.refl _ _).alloc.alloc.alloc
 have hbw : Below w.heap.size w w1 := hG.below0 hs.size
 have hk : KeepD w w1 := hG.keep True.intro
 have sz_w1 : w.heap.size ≤ w.heap.size := hs.size
 have B1 : Bx w1 (w.heap.size) 26 #[.bool shu, .slice ahu nhu chu, .slice Ahu Nhu Chu] := by rw [hW]; exact (((Bx.new0 _ _ _).alloc _).alloc _)
 have B0 : Bx w1 (w.heap.size + 1) 26 #[.bool shc, .slice ahc nhc chc, .slice Ahc Nhc Chc] := by rw [hW]; exact ((Bx.new0 _ _ _).alloc _)
 have Blk : Bx w1 (w.heap.size + 1 + 1) 26 #[.bool false, .slice none 0 0, .slice none 0 0] := by rw [hW]; exact (Bx.new0 _ _ _)
 replace hs := hs.trans hbw
 replace hu := hu.keep hk
 replace hc := hc.keep hk
 clear hW hG hk hbw
 have hz_w1 : w.heap.size + 1 + 1 < w1.heap.size := Blk.lt
 with_reducible refine (al_cvL_all (e := 0) _ (HL.out.mono PC.kept hs) (if_neg (by omega))).mono ?_
 rintro e w2 ⟨rfl, hb⟩
 replace hs := bStep hs hb
 replace B1 := B1.mono hb
 replace B0 := B0.mono hb
 replace Blk := Blk.mono hb
 replace hu := hu.mono hb
 replace hc := hc.mono hb
 clear hb
 have B5 : w2.cell? ⟨w.heap.size, 0, none⟩ = some (.bool shu) := B1.at 0 rfl
 have B6 : w2.cell? ⟨w.heap.size, 1, none⟩ = some (.slice ahu nhu chu) := B1.at 1 rfl
 have B7 : w2.cell? ⟨w.heap.size, 2, none⟩ = some (.slice Ahu Nhu Chu) := B1.at 2 rfl
 have Lshare : w.heap.size < w2.heap.size := B1.lt
 have B2 : w2.cell? ⟨w.heap.size + 1, 0, none⟩ = some (.bool shc) := B0.at 0 rfl
 have B3 : w2.cell? ⟨w.heap.size + 1, 1, none⟩ = some (.slice ahc nhc chc) := B0.at 1 rfl
 have B4 : w2.cell? ⟨w.heap.size + 1, 2, none⟩ = some (.slice Ahc Nhc Chc) := B0.at 2 rfl
 have Lconfidence : w.heap.size + 1 < w2.heap.size := B0.lt
 go_wp2_with fail
 clear B5 B6 B7 B2 B3 B4 Lshare Lconfidence
 with_reducible refine (al_Rank_all _ hu su hc sc HR.out HE.out).mono ?_
 rintro e w3 ⟨rfl, hb⟩
 replace hs := bStep hs hb
 replace B1 := B1.mono hb
 replace B0 := B0.mono hb
 replace Blk := Blk.mono hb
 replace hu := hu.mono hb
 replace hc := hc.mono hb
 clear hb
 go_wp2_with fail
 with_reducible refine (al_sorted _ (HL.out.mono PC.kept hs) g1 (by omega) HZL.out).mono ?_
 rintro e w4 ⟨_, rfl, hS1, hb⟩
 rw [HS.out] at hS1
 obtain ⟨bhS1, ohS1, khS1, rfl, hS11, hS12, -⟩ := hS1.open_ (by omega)
 replace hs := bStep hs hb
 replace B1 := B1.mono hb
 replace B0 := B0.mono hb
 replace Blk := Blk.mono hb
 replace hu := hu.mono hb
 replace hc := hc.mono hb
 clear hb
 have SW2a := IntWalk.i64_in ((r : Int) - 1) (by omega)
 have SW2b : (0 : Int) ≤ (r : Int) - 1 := by omega
 have SW2c : ((r : Int) - 1).toNat = (r - 1) := by omega
 have SW2d : (r : Int) - 1 < (S.length : Int) := by omega
 have SW2e : (1 : Int) ≤ (r : Int) := by omega
 have SW2f : (r : Int) < (S.length : Int) + 1 := by omega
 have BI3a : (r - 1) < S.length := by omega
 have BI3b : ((r : Int) - 1 : Int) < (S.length : Int) := by omega
 obtain ⟨ge4a, ae4a, ne4a, ce4a, Ae4a, Ne4a, De4a, Bb, Bc, Bd, he4a, le4⟩ := rowP_at hS1 (show (r - 1) < S.length by omega)
 have B8 : w4.cell? ⟨w.heap.size + 1 + 1, 0, none⟩ = some (.bool false) := Blk.at 0 rfl
 have B9 : w4.cell? ⟨w.heap.size + 1 + 1, 1, none⟩ = some (.slice none 0 0) := Blk.at 1 rfl
 have Ba : w4.cell? ⟨w.heap.size + 1 + 1, 2, none⟩ = some (.slice none 0 0) := Blk.at 2 rfl
 have fk := Blk.free
 have Lk : w.heap.size + 1 + 1 < w4.heap.size := Blk.lt
 go_wp2
 clear B8 B9 Ba fk Lk le4 Bb Bc Bd
 clear hS1
 refine bodyPost.abs ?_
 intro w5 hW
 have hG : Gr [w.heap.size + 1 + 1] w4 w5 := by rw [hW]; exact (Gr.refl _ _).set.set.set
 have hsz := hs.size
 have lk := Blk.lt
 have hbw : Below w.heap.size w4 w5 := hG.below1 hs.size (by first | omega | assumption)
 have hk : KeepD w4 w5 := hG.keep ⟨⟨_, Blk.ty, by decide⟩, True.intro⟩
 have Bl1k : Bx w5 (w.heap.size + 1 + 1) 26 #[.bool ge4a, .slice ae4a ne4a ce4a, .slice Ae4a Ne4a De4a] := by rw [hW]; exact Blk.set3
 replace hs := hs.trans hbw
 replace B1 := hG.bx B1 (notMem1 (by omega))
 replace B0 := hG.bx B0 (notMem1 (by omega))
 replace Blk := Bl1k
 clear Bl1k
 replace hu := hu.keep hk
 replace hc := hc.keep hk
 replace he4a := he4a.keep hk
 clear hW hG hk hbw hsz lk
 have B8 : w5.cell? ⟨w.heap.size + 1 + 1, 0, none⟩ = some (.bool ge4a) := Blk.at 0 rfl
 have B9 : w5.cell? ⟨w.heap.size + 1 + 1, 1, none⟩ = some (.slice ae4a ne4a ce4a) := Blk.at 1 rfl
 have Ba : w5.cell? ⟨w.heap.size + 1 + 1, 2, none⟩ = some (.slice Ae4a Ne4a De4a) := Blk.at 2 rfl
 exact bodyPost_ret (v := .tuple #[.agg #[.bool ge4a, .slice ae4a ne4a ce4a, .slice Ae4a Ne4a De4a], .int .i64 0]) (by simp [results, Try.results32, go_sem, B8, B9, Ba]) rfl ⟨_, rfl, he4a.of_eq (by rw [← HS.out]; exact HQ.out), hs⟩
end Go.Proofs.Ytmnipggjjcmjkaa
namespace Go.Proofs.Ytmnipggjjcmjkaa
open Go.RowKit Dg
theorem len_pos {L : List Rat} (h1 : 1 ≤ L.length) : 0 < ((L.length : Int) : Rat) := by
  have : (0 : Int) < L.length := by omega
  exact_mod_cast this
def LimOk (L : List Rat) (u c q : Rat) : Prop := 1 ≤ L.length ∧ L.length ≤ 64 ∧ rkEr L.length u c = 0 ∧ (∃ r : Nat, rkV L.length u c = (r : Int) ∧ ordQ L (r - 1) = q) ∧ ∀ i, i < L.length → SzQ 100000 (nthQ L i)
theorem LimOk.any {L : List Rat} {u c : Rat} (h1 : 1 ≤ L.length) (h2 : L.length ≤ 64) (hE : rkEr L.length u c = 0) (hz : ∀ i, i < L.length → SzQ 100000 (nthQ L i)) : ∃ r : Nat, (rkV L.length u c = (r : Int) ∧ r - 1 < L.length) ∧ LimOk L u c (ordQ L (r - 1)) := by
  have h0 : ∃ r : Nat, rkV L.length u c = (r : Int) := by
    unfold rkV
    split
    · exact ⟨0, rfl⟩
    · exact ⟨_, rfl⟩
  obtain ⟨r, hr⟩ := h0
  have := rk_range h1 h2 hE hr
  exact ⟨r, ⟨hr, by omega⟩, h1, h2, hE, ⟨r, hr, rfl⟩, hz⟩
end Go.Proofs.Ytmnipggjjcmjkaa
