/-
  Law 08: small (24 bits), list.
-/
import Derived.Test.YtlmemilmhdhgbaaGreatAlT0O
import Derived.Test.YtlmemilmhdhgbaaGreatPkLawO
set_option linter.unusedSimpArgs false
set_option linter.unusedVariables false
set_option maxRecDepth 100000
set_option maxHeartbeats 16000000
namespace Go.Proofs.YtlmemilmhdhgbaaGreat
open Go.RowKit Dg
attribute [local go_sem ↓] Go.wp_at_zero Go.wp_at_succ
theorem w64_16777216 : IntKind.i64.wrap 16777216 = 16777216 := by decide
theorem w64_m16777216 : IntKind.i64.wrap (-16777216) = -16777216 := by decide
def smF24 (x : Int × Int) : Bool := !(decide (16777216 < x.1) || (decide (x.1 < -16777216) || decide (16777216 < x.2)))
theorem l8_small24 (v : Value) (l : List (Int × Int)) (w : World) (hl : RowsI 2 FC w v l) : Calls Tryz.prog 5 #[.int .i64 24, v] w (RetV w (.bool (l.all smF24))) := by
 obtain ⟨ao, cap, rfl, hc1, hc2, hc3⟩ := hl.slice
 have hs := Below.refl w.heap.size w
 have HL := Lib.hid hl
 clear hl
 go_enter Tryz.func5, Tryz.ntmps5
 go_wp2
 go_loopw [9] (fun s9 wq => ∃ k : Nat, k ≤ l.length ∧ s9 = .int .i64 k ∧ Below w.heap.size w wq ∧ ((l.take k).all smF24 = true)) (fun s9 _ => l.length - (intOf s9).toNat)
 case atStart => exact ⟨0, Nat.zero_le _, rfl, hs, rfl⟩
 case round =>
  clear hs
  obtain ⟨k, k_le, rfl, hs, HI⟩ := hrel
  replace HI := Lib.hid HI
  by_cases q1 : k < l.length
  ·have q1d : ((k : Int) < (l.length : Int)) = True := eq_true (by omega)
   obtain ⟨bbe2, ooe2, cce2, hve2, B2, B3, le2⟩ := rowFC_at (HL.out.mono FC.kept hs) (show k < l.length by omega)
   obtain ⟨rfl, rfl⟩ := sliceE hve2
   obtain ⟨ze2a, Hze2a⟩ : ∃ z : Int, z = (fcA l k).1 := ⟨_, rfl⟩
   rw [← Hze2a] at B2
   replace Hze2a := Lib.hid Hze2a.symm
   obtain ⟨ze2b, Hze2b⟩ : ∃ z : Int, z = (fcA l k).2 := ⟨_, rfl⟩
   rw [← Hze2b] at B3
   replace Hze2b := Lib.hid Hze2b.symm
   go_upto_region 4 with fail
   clear le2 B2 B3
   refine Code.abs ?_
   intro w21 hW
   have hG : Gr [] wr w21 := by rw [hW]; exact (Gr.refl _ _).alloc
   have hbw : Below w.heap.size wr w21 := hG.below0 hs.size
   have hk : KeepD wr w21 := hG.keep True.intro
   have sz_w21 : w.heap.size ≤ wr.heap.size := hs.size
   have Blx : Bx w21 (wr.heap.size) 24 #[.int .i64 ze2a, .int .i64 ze2b] := by rw [hW]; exact (Bx.new0 _ _ _)
   replace hs := hs.trans hbw
   clear hW hG hk hbw
   have hz_w21 : wr.heap.size < w21.heap.size := Blx.lt
   by_cases q3 : 16777216 < ze2a
   ·have q3d : ((16777216 : Int) < ze2a) = True := eq_true (by omega)
    refine U_region (S := fun w' => w'.cell? ⟨wr.heap.size, 0, none⟩ = some (.int .i64 ze2a) ∧ w'.cell? ⟨wr.heap.size, 1, none⟩ = some (.int .i64 ze2b)) (by kernel_rfl) 19 ?_
    refine AnyU.abs ?_
    intro w22 hW
    have hb : Below w21.heap.size w21 w22 := by rw [hW]; exact bDrew _
    replace hs := bStep hs hb
    replace Blx := Blx.mono hb
    clear hb hW
    have B0 : w22.cell? ⟨wr.heap.size, 0, none⟩ = some (.int .i64 ze2a) := Blx.at 0 rfl
    have B1 : w22.cell? ⟨wr.heap.size, 1, none⟩ = some (.int .i64 ze2b) := Blx.at 1 rfl
    have hH := (show w22.cell? ⟨wr.heap.size, 0, none⟩ = some (.int .i64 ze2a) ∧ w22.cell? ⟨wr.heap.size, 1, none⟩ = some (.int .i64 ze2b) from ⟨B0, B1⟩)
    refine U_tk 0 13 ?_ ?_ hH ?_
    rotate_left
    ·(intro w hSw; (try dsimp only at hSw); go_simp; try with_reducible rfl)
    simp only [LY]
    refine U_tk 1 14 ?_ ?_ hH ?_
    rotate_left
    ·(intro w hSw; (try dsimp only at hSw); go_simp; try with_reducible rfl)
    simp only [LY]
    refine U_tk 2 15 ?_ ?_ hH ?_
    rotate_left
    ·(intro w hSw; (try dsimp only at hSw); go_simp; try with_reducible rfl)
    simp only [LY]
    refine U_tk 3 16 ?_ ?_ hH ?_
    rotate_left
    ·(intro w hSw; (try dsimp only at hSw); go_simp; try with_reducible rfl)
    simp only [LY]
    try simp only [w64_16777216, w64_m16777216]
    refine U_tk 4 17 ?_ ?_ hH ?_
    rotate_left
    ·(intro w hSw; (try dsimp only at hSw); go_simp; try with_reducible rfl)
    simp only [LY]
    try simp only [w64_16777216, w64_m16777216]
    refine U_tk 5 18 ?_ ?_ hH ?_
    rotate_left
    ·(intro w hSw; (try dsimp only at hSw); go_simp; try with_reducible rfl)
    simp only [LY]
    refine U_tu 6 19 hH ?_
    simp only [LY]
    refine U_tu 7 20 hH ?_
    simp only [LY]
    refine U_tu 8 21 hH ?_
    simp only [LY]
    refine U_tu 9 22 hH ?_
    simp only [LY]
    refine U_tu 10 23 hH ?_
    simp only [LY]
    refine U_tk 11 24 ?_ ?_ hH ?_
    rotate_left
    ·(intro w hSw; (try dsimp only at hSw); go_simp; try with_reducible rfl)
    simp only [LY]
    refine U_tk 12 25 ?_ ?_ hH ?_
    rotate_left
    ·(intro w hSw; (try dsimp only at hSw); go_simp; try with_reducible rfl)
    simp only [LY]
    refine U_tu 13 26 hH ?_
    simp only [LY]
    refine U_tu 14 27 hH ?_
    simp only [LY]
    refine U_tu 15 28 hH ?_
    simp only [LY]
    refine U_tu 16 29 hH ?_
    simp only [LY]
    refine U_tu 17 30 hH ?_
    simp only [LY]
    refine U_tk 18 31 ?_ ?_ hH ?_
    rotate_left
    ·(intro w hSw; (try dsimp only at hSw); go_simp; try with_reducible rfl)
    simp only [LY]
    clear hH
    refine U_endN (by kernel_rfl) ?_
    clear B0 B1
    go_wp2
    go_ret
    have HF := allF_take smF24 l k _ (fc_some (by omega)) HI.out
    rw [show smF24 (fcA l k) = false by unfold smF24; simp [Hze2a.out, Hze2b.out]; omega] at HF
    have HF2 := allF_false _ l (k + 1) HF
    exact ⟨by rw [HF2]; rfl, hs⟩
   ·have q3d : ((16777216 : Int) < ze2a) = False := eq_false (by omega)
    by_cases q4 : ze2a < -16777216
    ·have q4d : (ze2a < -16777216) = True := eq_true (by omega)
     refine U_region (S := fun w' => w'.cell? ⟨wr.heap.size, 0, none⟩ = some (.int .i64 ze2a) ∧ w'.cell? ⟨wr.heap.size, 1, none⟩ = some (.int .i64 ze2b)) (by kernel_rfl) 19 ?_
     refine AnyU.abs ?_
     intro w22 hW
     have hb : Below w21.heap.size w21 w22 := by rw [hW]; exact bDrew _
     replace hs := bStep hs hb
     replace Blx := Blx.mono hb
     clear hb hW
     have B0 : w22.cell? ⟨wr.heap.size, 0, none⟩ = some (.int .i64 ze2a) := Blx.at 0 rfl
     have B1 : w22.cell? ⟨wr.heap.size, 1, none⟩ = some (.int .i64 ze2b) := Blx.at 1 rfl
     have hH := (show w22.cell? ⟨wr.heap.size, 0, none⟩ = some (.int .i64 ze2a) ∧ w22.cell? ⟨wr.heap.size, 1, none⟩ = some (.int .i64 ze2b) from ⟨B0, B1⟩)
     refine U_tk 0 13 ?_ ?_ hH ?_
     rotate_left
     ·(intro w hSw; (try dsimp only at hSw); go_simp; try with_reducible rfl)
     simp only [LY]
     refine U_tk 1 14 ?_ ?_ hH ?_
     rotate_left
     ·(intro w hSw; (try dsimp only at hSw); go_simp; try with_reducible rfl)
     simp only [LY]
     refine U_tk 2 15 ?_ ?_ hH ?_
     rotate_left
     ·(intro w hSw; (try dsimp only at hSw); go_simp; try with_reducible rfl)
     simp only [LY]
     refine U_tk 3 16 ?_ ?_ hH ?_
     rotate_left
     ·(intro w hSw; (try dsimp only at hSw); go_simp; try with_reducible rfl)
     simp only [LY]
     try simp only [w64_16777216, w64_m16777216]
     refine U_tk 4 17 ?_ ?_ hH ?_
     rotate_left
     ·(intro w hSw; (try dsimp only at hSw); go_simp; try with_reducible rfl)
     simp only [LY]
     try simp only [w64_16777216, w64_m16777216]
     refine U_tk 5 18 ?_ ?_ hH ?_
     rotate_left
     ·(intro w hSw; (try dsimp only at hSw); go_simp; try with_reducible rfl)
     simp only [LY]
     refine U_tk 6 19 ?_ ?_ hH ?_
     rotate_left
     ·(intro w hSw; (try dsimp only at hSw); go_simp; try with_reducible rfl)
     simp only [LY]
     refine U_tk 7 20 ?_ ?_ hH ?_
     rotate_left
     ·(intro w hSw; (try dsimp only at hSw); go_simp; try with_reducible rfl)
     simp only [LY]
     refine U_tk 8 21 ?_ ?_ hH ?_
     rotate_left
     ·(intro w hSw; (try dsimp only at hSw); go_simp; try with_reducible rfl)
     simp only [LY]
     refine U_tk 9 22 ?_ ?_ hH ?_
     rotate_left
     ·(intro w hSw; (try dsimp only at hSw); go_simp; try with_reducible rfl)
     simp only [LY]
     try simp only [w64_16777216, w64_m16777216]
     refine U_tk 10 23 ?_ ?_ hH ?_
     rotate_left
     ·(intro w hSw; (try dsimp only at hSw); go_simp; try with_reducible rfl)
     simp only [LY]
     try simp only [w64_16777216, w64_m16777216]
     refine U_tk 11 24 ?_ ?_ hH ?_
     rotate_left
     ·(intro w hSw; (try dsimp only at hSw); go_simp; try with_reducible rfl)
     simp only [LY]
     refine U_tk 12 25 ?_ ?_ hH ?_
     rotate_left
     ·(intro w hSw; (try dsimp only at hSw); go_simp; try with_reducible rfl)
     simp only [LY]
     refine U_tu 13 26 hH ?_
     simp only [LY]
     refine U_tu 14 27 hH ?_
     simp only [LY]
     refine U_tu 15 28 hH ?_
     simp only [LY]
     refine U_tu 16 29 hH ?_
     simp only [LY]
     refine U_tu 17 30 hH ?_
     simp only [LY]
     refine U_tk 18 31 ?_ ?_ hH ?_
     rotate_left
     ·(intro w hSw; (try dsimp only at hSw); go_simp; try with_reducible rfl)
     simp only [LY]
     clear hH
     refine U_endN (by kernel_rfl) ?_
     clear B0 B1
     go_wp2
     go_ret
     have HF := allF_take smF24 l k _ (fc_some (by omega)) HI.out
     rw [show smF24 (fcA l k) = false by unfold smF24; simp [Hze2a.out, Hze2b.out]; omega] at HF
     have HF2 := allF_false _ l (k + 1) HF
     exact ⟨by rw [HF2]; rfl, hs⟩
    ·have q4d : (ze2a < -16777216) = False := eq_false (by omega)
     refine U_region (S := fun w' => w'.cell? ⟨wr.heap.size, 0, none⟩ = some (.int .i64 ze2a) ∧ w'.cell? ⟨wr.heap.size, 1, none⟩ = some (.int .i64 ze2b)) (by kernel_rfl) 19 ?_
     refine AnyU.abs ?_
     intro w22 hW
     have hb : Below w21.heap.size w21 w22 := by rw [hW]; exact bDrew _
     replace hs := bStep hs hb
     replace Blx := Blx.mono hb
     clear hb hW
     have B0 : w22.cell? ⟨wr.heap.size, 0, none⟩ = some (.int .i64 ze2a) := Blx.at 0 rfl
     have B1 : w22.cell? ⟨wr.heap.size, 1, none⟩ = some (.int .i64 ze2b) := Blx.at 1 rfl
     have hH := (show w22.cell? ⟨wr.heap.size, 0, none⟩ = some (.int .i64 ze2a) ∧ w22.cell? ⟨wr.heap.size, 1, none⟩ = some (.int .i64 ze2b) from ⟨B0, B1⟩)
     refine U_tk 0 13 ?_ ?_ hH ?_
     rotate_left
     ·(intro w hSw; (try dsimp only at hSw); go_simp; try with_reducible rfl)
     simp only [LY]
     refine U_tk 1 14 ?_ ?_ hH ?_
     rotate_left
     ·(intro w hSw; (try dsimp only at hSw); go_simp; try with_reducible rfl)
     simp only [LY]
     refine U_tk 2 15 ?_ ?_ hH ?_
     rotate_left
     ·(intro w hSw; (try dsimp only at hSw); go_simp; try with_reducible rfl)
     simp only [LY]
     refine U_tk 3 16 ?_ ?_ hH ?_
     rotate_left
     ·(intro w hSw; (try dsimp only at hSw); go_simp; try with_reducible rfl)
     simp only [LY]
     try simp only [w64_16777216, w64_m16777216]
     refine U_tk 4 17 ?_ ?_ hH ?_
     rotate_left
     ·(intro w hSw; (try dsimp only at hSw); go_simp; try with_reducible rfl)
     simp only [LY]
     try simp only [w64_16777216, w64_m16777216]
     refine U_tk 5 18 ?_ ?_ hH ?_
     rotate_left
     ·(intro w hSw; (try dsimp only at hSw); go_simp; try with_reducible rfl)
     simp only [LY]
     refine U_tk 6 19 ?_ ?_ hH ?_
     rotate_left
     ·(intro w hSw; (try dsimp only at hSw); go_simp; try with_reducible rfl)
     simp only [LY]
     refine U_tk 7 20 ?_ ?_ hH ?_
     rotate_left
     ·(intro w hSw; (try dsimp only at hSw); go_simp; try with_reducible rfl)
     simp only [LY]
     refine U_tk 8 21 ?_ ?_ hH ?_
     rotate_left
     ·(intro w hSw; (try dsimp only at hSw); go_simp; try with_reducible rfl)
     simp only [LY]
     refine U_tk 9 22 ?_ ?_ hH ?_
     rotate_left
     ·(intro w hSw; (try dsimp only at hSw); go_simp; try with_reducible rfl)
     simp only [LY]
     try simp only [w64_16777216, w64_m16777216]
     refine U_tk 10 23 ?_ ?_ hH ?_
     rotate_left
     ·(intro w hSw; (try dsimp only at hSw); go_simp; try with_reducible rfl)
     simp only [LY]
     try simp only [w64_16777216, w64_m16777216]
     refine U_tk 11 24 ?_ ?_ hH ?_
     rotate_left
     ·(intro w hSw; (try dsimp only at hSw); go_simp; try with_reducible rfl)
     simp only [LY]
     refine U_tk 12 25 ?_ ?_ hH ?_
     rotate_left
     ·(intro w hSw; (try dsimp only at hSw); go_simp; try with_reducible rfl)
     simp only [LY]
     refine U_tk 13 26 ?_ ?_ hH ?_
     rotate_left
     ·(intro w hSw; (try dsimp only at hSw); go_simp; try with_reducible rfl)
     simp only [LY]
     refine U_tk 14 27 ?_ ?_ hH ?_
     rotate_left
     ·(intro w hSw; (try dsimp only at hSw); go_simp; try with_reducible rfl)
     simp only [LY]
     refine U_tk 15 28 ?_ ?_ hH ?_
     rotate_left
     ·(intro w hSw; (try dsimp only at hSw); go_simp; try with_reducible rfl)
     simp only [LY]
     refine U_tk 16 29 ?_ ?_ hH ?_
     rotate_left
     ·(intro w hSw; (try dsimp only at hSw); go_simp; try with_reducible rfl)
     simp only [LY]
     try simp only [w64_16777216, w64_m16777216]
     refine U_tk 17 30 ?_ ?_ hH ?_
     rotate_left
     ·(intro w hSw; (try dsimp only at hSw); go_simp; try with_reducible rfl)
     simp only [LY]
     try simp only [w64_16777216, w64_m16777216]
     refine U_tk 18 31 ?_ ?_ hH ?_
     rotate_left
     ·(intro w hSw; (try dsimp only at hSw); go_simp; try with_reducible rfl)
     simp only [LY]
     clear hH
     refine U_endN (by kernel_rfl) ?_
     clear B0 B1
     by_cases q5 : 16777216 < ze2b
     ·have q5d : ((16777216 : Int) < ze2b) = True := eq_true (by omega)
      go_wp2
      go_ret
      have HF := allF_take smF24 l k _ (fc_some (by omega)) HI.out
      rw [show smF24 (fcA l k) = false by unfold smF24; simp [Hze2a.out, Hze2b.out]; omega] at HF
      have HF2 := allF_false _ l (k + 1) HF
      exact ⟨by rw [HF2]; rfl, hs⟩
     ·have q5d : ((16777216 : Int) < ze2b) = False := eq_false (by omega)
      go_wp2
      go_roundw
      case rel => exact ⟨k + 1, by omega, by go_num, hs, ((allF_take smF24 l k _ (fc_some (by omega)) HI.out).trans (by unfold smF24; simp [Hze2a.out, Hze2b.out]; omega))⟩
      all_goals first | (simp [intOf]; done) | (simp [intOf]; omega)
  ·have q1d : ((k : Int) < (l.length : Int)) = False := eq_false (by omega)
   go_wp2
   go_ret
   have hp := HI.out
   rw [List.take_of_length_le (by omega)] at hp
   exact ⟨by rw [hp]; rfl, hs⟩
theorem smF24_sz {n d : Int} (h : smF24 (n, d) = true) : SzQ 1 (fracQ n d) := by
 unfold smF24 at h
 simp at h
 unfold fracQ
 split
 ·exact szQ_int (by omega)
 ·exact szQ_frac (by omega) (by omega) (by omega)
def fr8 (x : Int × Int) : Rat := fracQ x.1 x.2
theorem fr8_sz {l : List (Int × Int)} (h : l.all smF24 = true) (i : Nat) (hi : i < (l.map fr8).length) : SzQ 1 (nthQ (l.map fr8) i) := by
 rw [List.length_map] at hi
 have e : nthQ (l.map fr8) i = fr8 (fcA l i) := by
  unfold nthQ
  rw [List.getD_eq_getElem?_getD, List.getElem?_map, fc_some hi]; rfl
 rw [e]
 exact smF24_sz (List.all_eq_true.1 h _ (List.mem_of_getElem? (fc_some hi)))
theorem l8_list (v : Value) (l : List (Int × Int)) (w : World) (hl : RowsI 2 FC w v l) (h30 : l.length ≤ 100) (hok : ∀ x ∈ l, DOk x) :
  Calls Tryz.prog 6 #[v] w (Ret2 (fun w v => Rows 3 34 PC w v (l.map fr8)) (fun w v => Rows 3 41 RC w v (l.map fr8)) w) := by
 obtain ⟨ao, cap, rfl, hc1, hc2, hc3⟩ := hl.slice
 have hs := Below.refl w.heap.size w
 have HL := Lib.hid hl
 have HOK := Lib.hid hok
 obtain ⟨i0, hi, hz0, hz1, hz2⟩ := info_parts alP_info
 obtain ⟨j0, hj, hy0, hy1, hy2⟩ := info_parts rR_info
 clear hl hok
 go_enter Tryz.func6, Tryz.ntmps6
 go_wp2
 go_loopw [4, 5, 10] (fun av bv iv wq => ∃ k : Nat, k ≤ l.length ∧ iv = .int .i64 k ∧ Below w.heap.size w wq ∧ OwnR w.heap.size 34 3 PC wq av ((l.take k).map fr8) ∧ OwnR w.heap.size 41 3 RC wq bv ((l.take k).map fr8)) (fun _ _ iv _ => l.length - (intOf iv).toNat)
 case atStart => exact ⟨0, Nat.zero_le _, rfl, hs, OwnR.nil _ _ _ _ _, OwnR.nil _ _ _ _ _⟩
 case round =>
  obtain ⟨k, hk, rfl, hs, Opa, Opb⟩ := hrel
  by_cases hlt : k < l.length
  ·obtain ⟨⟨n1, d1⟩, hx⟩ : ∃ x, l[k]? = some x := ⟨_, List.getElem?_eq_getElem hlt⟩
   obtain ⟨b, o, c, cs, hv, hlen, hat, rfl⟩ := (HL.out.mono FC.kept hs).get hx
   obtain ⟨rfl, rfl⟩ := sliceE hv
   obtain ⟨a1, a2, a3, a4⟩ := HOK.out _ (List.mem_of_getElem? hx)
   have e0 := hat 0 _ rfl
   have e1 := hat 1 _ rfl
   clear hat
   simp only [Nat.add_zero] at e0
   have HM := Lib.hid (map_take fr8 l k _ hx)
   have hlm : ((l.take k).map fr8).length = k := by rw [List.length_map, List.length_take]; omega
   clear hx hv hlen
   dsimp only at e0 e1 a1 a2 a3 a4
   go_upto_region 6 with fail
   clear e0 e1
   refine Code.abs ?_
   intro w21 hW
   have hsz := hs.size
   have hbw : Below w.heap.size wr w21 := by rw [hW]; exact (Below.alloc (Below.refl w.heap.size wr) (by first | exact hs.size | (have := hs.size; simp; done) | (have := hs.size; simp; omega)) _)
   have hs1 : Below w.heap.size w w21 := hs.trans hbw
   have hk : KeepD wr w21 := by rw [hW]; exact ((KeepD.refl _).alloc _)
   have hb1 : Below wr.heap.size wr w21 := by rw [hW]; exact (Below.alloc (Below.refl _ _) (by first | exact Nat.le_refl _ | (simp; done) | (simp; omega)) _)
   have Bl1x : Bx w21 (wr.heap.size) 24 #[.int .i64 n1, .int .i64 d1] := by rw [hW]; exact (Bx.new' _ _ _ _ (by first | rfl | (simp; done)))
   replace hs := hs1
   clear hs1
   have Blx := Bl1x
   clear Bl1x
   replace Opa := Opa.mono PC.kept hb1
   replace Opb := Opb.mono RC.kept hb1
   clear hb1
   clear hW hk hsz hbw
   have hz_w21 : wr.heap.size < w21.heap.size := Blx.lt
   refine U_region (S := fun w' => w'.cell? ⟨wr.heap.size, 0, none⟩ = some (.int .i64 n1) ∧ w'.cell? ⟨wr.heap.size, 1, none⟩ = some (.int .i64 d1)) (by kernel_rfl) 11 ?_
   refine AnyU.abs ?_
   intro w22 hW
   have hb : Below w21.heap.size w21 w22 := by rw [hW]; exact bDrew _
   replace hs := bStep hs hb
   replace Blx := Blx.mono hb
   replace Opa := Opa.mono PC.kept hb
   replace Opb := Opb.mono RC.kept hb
   clear hb hW
   have B0 : w22.cell? ⟨wr.heap.size, 0, none⟩ = some (.int .i64 n1) := Blx.at 0 rfl
   have B1 : w22.cell? ⟨wr.heap.size, 1, none⟩ = some (.int .i64 d1) := Blx.at 1 rfl
   have hH := (show w22.cell? ⟨wr.heap.size, 0, none⟩ = some (.int .i64 n1) ∧ w22.cell? ⟨wr.heap.size, 1, none⟩ = some (.int .i64 d1) from ⟨B0, B1⟩)
   refine U_tt 0 ?_ ?_ hH ?_
   rotate_left
   ·(intro w hSw; (try dsimp only at hSw); go_simp; try with_reducible rfl)
   try simp only [LY]
   refine U_tt 1 ?_ ?_ hH ?_
   rotate_left
   ·(intro w hSw; (try dsimp only at hSw); go_simp; try with_reducible rfl)
   try simp only [LY]
   refine U_tt 5 ?_ ?_ hH ?_
   rotate_left
   ·(intro w hSw; (try dsimp only at hSw); go_simp; try with_reducible rfl)
   try simp only [LY]
   refine U_tt 6 ?_ ?_ hH ?_
   rotate_left
   ·(intro w hSw; (try dsimp only at hSw); go_simp; try with_reducible rfl)
   try simp only [LY]
   clear hH
   refine U_one (i := 2) (by kernel_rfl) rfl (fun K hK => ?_)
   go_simp
   (with_reducible refine (l1_Of_ _ ⟨a1, a2, a3, a4⟩ rfl).mono ?_)
   rintro e w23 ⟨_, rfl, hp, hb⟩
   obtain ⟨shp, ahp, nhp, chp, Ahp, Nhp, Chp, rfl⟩ := hp.shape
   replace hs := bStep hs hb
   replace Blx := Blx.mono hb
   replace Opa := Opa.mono PC.kept hb
   replace Opb := Opb.mono RC.kept hb
   replace B0 := cellK B0 hb
   replace B1 := cellK B1 hb
   clear hb
   try go_wp2_with fail
   refine hK.out _ _ ⟨B0, B1⟩ (fun hH => ?_)
   clear hK K
   try simp only [LY]
   clear hH
   refine U_one (i := 3) (by kernel_rfl) rfl (fun K hK => ?_)
   go_simp
   generalize hWn : (w23.alloc (.cells #[.bool shp, .slice ahp nhp chp, .slice Ahp Nhp Chp] 34)) = w24
   have hb : Below w23.heap.size w23 w24 := by rw [← hWn]; exact (Below.refl _ _).alloc (Nat.le_refl _) _
   have Ble : Bx w24 (w23.heap.size) 34 #[.bool shp, .slice ahp nhp chp, .slice Ahp Nhp Chp] := by rw [← hWn]; exact Bx.new _ _ _
   have nx_e : wr.heap.size ≠ w23.heap.size := by have := Blx.lt; omega
   have sz_e : w.heap.size ≤ w23.heap.size := hs.size
   replace hs := bStep hs hb
   replace Blx := Blx.mono hb
   replace hp := hp.mono hb
   replace Opa := Opa.mono PC.kept hb
   replace Opb := Opb.mono RC.kept hb
   replace B0 := cellK B0 hb
   replace B1 := cellK B1 hb
   clear hb hWn
   refine hK.out _ _ ⟨B0, B1⟩ (fun hH => ?_)
   clear hK K
   try simp only [LY]
   clear hH
   refine U_one (i := 4) (by kernel_rfl) rfl (fun K hK => ?_)
   obtain ⟨css, ho1, ho2, ho3, hown0⟩ := Opa
   simp only [List.getElem_toArray, List.getElem_cons_succ, List.getElem_cons_zero]
   rw [if_pos (by rfl)]
   refine wp_append_lies _ _ _ _ (by rfl) w.heap.size 34 i0 _ 3 56 Tryz.underlying27 hi hz0 hz1 hz2 (by rfl) (by omega) _ _ css.flatten (by rfl) hown0 ⟨w23.heap.size, 0, none⟩ 1 1 [.bool shp, .slice ahp nhp chp, .slice Ahp Nhp Chp] (by rfl) (by rfl) Ble.news ?_ (by omega) ?_ ?_ ?_ _ rfl ?_
   ·intro u hu; simp only [List.mem_cons, List.mem_nil_iff, or_false] at hu; rcases hu with rfl | rfl | rfl <;> rfl
   ·unfold maxLen; omega
   ·omega
   ·exact hs.size
   intro gpa cappa w25 hown1 hgrow hat hlt
   have hk := KeepD.owns hown0 hgrow (by decide)
   have ho := owns_onlyT hown0 hgrow
   replace hs := hs.grown hgrow hs.size (fun k hk => (hown0.lt k hk).1)
   replace Opa := OwnR.push PC.kept ho1 ho2 ho3 (x := (fr8 (n1, d1))) rfl ⟨_, _, _, rfl, hp⟩ hown1 hk
   replace Blx := Blx.only ho (by decide)
   replace hp := hp.keep hk
   replace Opb := Opb.onlyT RC.kept ho (by decide) (by decide)
   replace B0 := Blx.at 0 rfl
   replace B1 := Blx.at 1 rfl
   clear hk ho ho1 ho2 ho3 hown0 hown1 hgrow Ble
   refine hK.out _ _ ⟨B0, B1⟩ (fun hH => ?_)
   clear hK K
   try simp only [LY]
   clear hH
   refine U_one (i := 7) (by kernel_rfl) rfl (fun K hK => ?_)
   go_simp
   (with_reducible refine (r_Of_calls n1 d1 _ a1 a2 a3 a4).mono ?_)
   rintro e w26 ⟨_, rfl, hr, hb⟩
   obtain ⟨shr, ahr, nhr, chr, Ahr, Nhr, Chr, rfl⟩ := hr.shape
   replace hs := bStep hs hb
   replace Blx := Blx.mono hb
   replace hp := hp.mono hb
   replace Opa := Opa.mono PC.kept hb
   replace Opb := Opb.mono RC.kept hb
   replace B0 := cellK B0 hb
   replace B1 := cellK B1 hb
   clear hb
   try go_wp2_with fail
   refine hK.out _ _ ⟨B0, B1⟩ (fun hH => ?_)
   clear hK K
   try simp only [LY]
   clear hH
   refine U_one (i := 8) (by kernel_rfl) rfl (fun K hK => ?_)
   go_simp
   generalize hWn : (w26.alloc (.cells #[.bool shr, .slice ahr nhr chr, .slice Ahr Nhr Chr] 41)) = w27
   have hb : Below w26.heap.size w26 w27 := by rw [← hWn]; exact (Below.refl _ _).alloc (Nat.le_refl _) _
   have Blf : Bx w27 (w26.heap.size) 41 #[.bool shr, .slice ahr nhr chr, .slice Ahr Nhr Chr] := by rw [← hWn]; exact Bx.new _ _ _
   have nx_f : wr.heap.size ≠ w26.heap.size := by have := Blx.lt; omega
   have sz_f : w.heap.size ≤ w26.heap.size := hs.size
   replace hs := bStep hs hb
   replace Blx := Blx.mono hb
   replace hp := hp.mono hb
   replace hr := hr.mono hb
   replace Opa := Opa.mono PC.kept hb
   replace Opb := Opb.mono RC.kept hb
   replace B0 := cellK B0 hb
   replace B1 := cellK B1 hb
   clear hb hWn
   refine hK.out _ _ ⟨B0, B1⟩ (fun hH => ?_)
   clear hK K
   try simp only [LY]
   clear hH
   refine U_one (i := 9) (by kernel_rfl) rfl (fun K hK => ?_)
   obtain ⟨css, ho1, ho2, ho3, hown0⟩ := Opb
   simp only [List.getElem_toArray, List.getElem_cons_succ, List.getElem_cons_zero]
   rw [if_pos (by rfl)]
   refine wp_append_lies _ _ _ _ (by rfl) w.heap.size 41 j0 _ 3 56 Tryz.underlying28 hj hy0 hy1 hy2 (by rfl) (by omega) _ _ css.flatten (by rfl) hown0 ⟨w26.heap.size, 0, none⟩ 1 1 [.bool shr, .slice ahr nhr chr, .slice Ahr Nhr Chr] (by rfl) (by rfl) Blf.news ?_ (by omega) ?_ ?_ ?_ _ rfl ?_
   ·intro u hu; simp only [List.mem_cons, List.mem_nil_iff, or_false] at hu; rcases hu with rfl | rfl | rfl <;> rfl
   ·unfold maxLen; omega
   ·omega
   ·exact hs.size
   intro gpb cappb w28 hown1 hgrow hat hlt
   have hk := KeepD.owns hown0 hgrow (by decide)
   have ho := owns_onlyT hown0 hgrow
   replace hs := hs.grown hgrow hs.size (fun k hk => (hown0.lt k hk).1)
   replace Opb := OwnR.push RC.kept ho1 ho2 ho3 (x := (fr8 (n1, d1))) rfl ⟨_, _, _, rfl, hr⟩ hown1 hk
   replace Blx := Blx.only ho (by decide)
   replace hp := hp.keep hk
   replace hr := hr.keep hk
   replace Opa := Opa.onlyT PC.kept ho (by decide) (by decide)
   replace B0 := Blx.at 0 rfl
   replace B1 := Blx.at 1 rfl
   clear hk ho ho1 ho2 ho3 hown0 hown1 hgrow Blf
   refine hK.out _ _ ⟨B0, B1⟩ (fun hH => ?_)
   clear hK K
   try simp only [LY]
   refine U_tt 10 ?_ ?_ hH ?_
   rotate_left
   ·(intro w hSw; (try dsimp only at hSw); go_simp; try with_reducible rfl)
   try simp only [LY]
   clear hH
   refine U_last (by kernel_rfl) rfl (by kernel_rfl) (fun K hK => ?_)
   go_simp
   refine hK.out _ _ ?_
   clear hK K
   intro wl hW
   rw [hW]
   clear hW wl
   try simp only [LY]
   clear B0 B1
   go_wp2
   go_roundw
   case rel => exact ⟨k + 1, by omega, by go_num, hs, by rw [HM.out]; rw [hlm] at Opa; exact Opa, by rw [HM.out]; rw [hlm] at Opb; exact Opb⟩
   all_goals first | (simp [intOf]; done) | (simp [intOf]; omega)
  ·rw [List.take_of_length_le (by omega)] at Opa Opb
   have O1 := Lib.hid Opa.rows
   have O2 := Lib.hid Opb.rows
   clear Opa Opb
   go_wp2
   go_ret2
   exact ⟨_, _, rfl, O1.out, O2.out, hs⟩
end Go.Proofs.YtlmemilmhdhgbaaGreat
