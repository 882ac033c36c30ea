/-
  Law 08: small; law 01's Is; reference 01's Of; tails, ranks, coupons at whatever numbers.
-/
import Derived.Test.YtlmemilmhdhgbaaGreatPkAlRO
import Derived.Test.YtlmemilmhdhgbaaGreatPkAlFO
import Derived.Test.YtlmemilmhdhgbaaGreatPkLawO
set_option linter.unusedSimpArgs false
set_option linter.unusedVariables false
set_option maxRecDepth 100000
set_option maxHeartbeats 4000000
namespace Go.Proofs.YtlmemilmhdhgbaaGreat
open Go.RowKit Dg
attribute [local go_sem ↓] Go.wp_at_zero Go.wp_at_succ
def fcA (L : List (Int × Int)) (i : Nat) : Int × Int := L.getD i (0, 0)
theorem fc_some {L : List (Int × Int)} {i : Nat} (h : i < L.length) : L[i]? = some (fcA L i) := by unfold fcA; rw [List.getD_eq_getElem?_getD, List.getElem?_eq_getElem h]; rfl
theorem rowFC_at {w : World} {v : Value} {L : List (Int × Int)} {i : Nat} (h : RowsI 2 FC w v L) (hi : i < L.length) : ∃ b o c, v = .slice (some ⟨b, o, none⟩) L.length c ∧ w.cell? ⟨b, o + i * 2, none⟩ = some (.int .i64 (fcA L i).1) ∧ w.cell? ⟨b, o + i * 2 + 1, none⟩ = some (.int .i64 (fcA L i).2) ∧ b < w.heap.size := by
 obtain ⟨b', o', c', cs, hv, _, hat, rfl⟩ := h.get (fc_some hi)
 have h0 := hat 0 _ rfl
 exact ⟨_, _, _, hv, h0, hat 1 _ rfl, cell_lt h0⟩
theorem w64_256 : IntKind.i64.wrap 256 = 256 := by decide
theorem w64_m256 : IntKind.i64.wrap (-256) = -256 := by decide
def smF8 (x : Int × Int) : Bool := !(decide (256 < x.1) || (decide (x.1 < -256) || decide (256 < x.2)))
theorem l8_small8 (v : Value) (l : List (Int × Int)) (w : World) (hl : RowsI 2 FC w v l) : Calls Tryz.prog 5 #[.int .i64 8, v] w (RetV w (.bool (l.all smF8))) := by
 obtain ⟨ao, cap, rfl, hc1, hc2, hc3⟩ := hl.slice
 have hs := Below.refl w.heap.size w
 have HL := Lib.hid hl
 clear hl
 go_enter Tryz.func5, Tryz.ntmps5
 go_wp2
 go_loopw [9] (fun s9 wq => ∃ k : Nat, k ≤ l.length ∧ s9 = .int .i64 k ∧ Below w.heap.size w wq ∧ ((l.take k).all smF8 = true)) (fun s9 _ => l.length - (intOf s9).toNat)
 case atStart => exact ⟨0, Nat.zero_le _, rfl, hs, rfl⟩
 case round =>
  clear hs
  obtain ⟨k, k_le, rfl, hs, HI⟩ := hrel
  replace HI := Lib.hid HI
  by_cases q1 : k < l.length
  ·have q1d : ((k : Int) < (l.length : Int)) = True := eq_true (by omega)
   obtain ⟨bbe2, ooe2, cce2, hve2, B9, Ba, le2⟩ := rowFC_at (HL.out.mono FC.kept hs) (show k < l.length by omega)
   obtain ⟨rfl, rfl⟩ := sliceE hve2
   obtain ⟨ze2a, Hze2a⟩ : ∃ z : Int, z = (fcA l k).1 := ⟨_, rfl⟩
   rw [← Hze2a] at B9
   replace Hze2a := Lib.hid Hze2a.symm
   obtain ⟨ze2b, Hze2b⟩ : ∃ z : Int, z = (fcA l k).2 := ⟨_, rfl⟩
   rw [← Hze2b] at Ba
   replace Hze2b := Lib.hid Hze2b.symm
   go_upto_region 4 with fail
   clear le2 B9 Ba
   refine Code.abs ?_
   intro w21 hW
   have hG : Gr [] wr w21 := by rw [hW]; exact (Gr.refl _ _).alloc
   have hbw : Below w.heap.size wr w21 := hG.below0 hs.size
   have hk : KeepD wr w21 := hG.keep True.intro
   have sz_w21 : w.heap.size ≤ wr.heap.size := hs.size
   have Blx : Bx w21 (wr.heap.size) 24 #[.int .i64 ze2a, .int .i64 ze2b] := by rw [hW]; exact (Bx.new0 _ _ _)
   replace hs := hs.trans hbw
   clear hW hG hk hbw
   have hz_w21 : wr.heap.size < w21.heap.size := Blx.lt
   by_cases q3 : 256 < ze2a
   ·have q3d : ((256 : Int) < ze2a) = True := eq_true (by omega)
    refine U_region (S := fun w' => w'.cell? ⟨wr.heap.size, 0, none⟩ = some (.int .i64 ze2a) ∧ w'.cell? ⟨wr.heap.size, 1, none⟩ = some (.int .i64 ze2b)) (by kernel_rfl) 19 ?_
    refine AnyU.abs ?_
    intro w22 hW
    have hb : Below w21.heap.size w21 w22 := by rw [hW]; exact bDrew _
    replace hs := bStep hs hb
    replace Blx := Blx.mono hb
    clear hb hW
    have B0 : w22.cell? ⟨wr.heap.size, 0, none⟩ = some (.int .i64 ze2a) := Blx.at 0 rfl
    have B1 : w22.cell? ⟨wr.heap.size, 1, none⟩ = some (.int .i64 ze2b) := Blx.at 1 rfl
    have hH := (show w22.cell? ⟨wr.heap.size, 0, none⟩ = some (.int .i64 ze2a) ∧ w22.cell? ⟨wr.heap.size, 1, none⟩ = some (.int .i64 ze2b) from ⟨B0, B1⟩)
    refine U_takeN (i := 0) (d := 13) (v := ?_) rfl rfl rfl (by kernel_rfl) (by kernel_rfl) (by kernel_rfl) (fun _ _ _ h => h) (Or.inl ⟨by rfl, ?_⟩) hH ?_
    rotate_left
    ·intro w hSw
     try dsimp only at hSw
     go_simp
     try with_reducible rfl
    simp only [LY]
    refine U_takeN (i := 1) (d := 14) (v := ?_) rfl rfl rfl (by kernel_rfl) (by kernel_rfl) (by kernel_rfl) (fun _ _ _ h => h) (Or.inl ⟨by rfl, ?_⟩) hH ?_
    rotate_left
    ·intro w hSw
     try dsimp only at hSw
     go_simp
     try with_reducible rfl
    simp only [LY]
    refine U_takeN (i := 2) (d := 15) (v := ?_) rfl rfl rfl (by kernel_rfl) (by kernel_rfl) (by kernel_rfl) (fun _ _ _ h => h) (Or.inl ⟨by rfl, ?_⟩) hH ?_
    rotate_left
    ·intro w hSw
     try dsimp only at hSw
     go_simp
     try with_reducible rfl
    simp only [LY]
    refine U_takeN (i := 3) (d := 16) (v := ?_) rfl rfl rfl (by kernel_rfl) (by kernel_rfl) (by kernel_rfl) (fun _ _ _ h => h) (Or.inl ⟨by rfl, ?_⟩) hH ?_
    rotate_left
    ·intro w hSw
     try dsimp only at hSw
     go_simp
     try with_reducible rfl
    simp only [LY]
    try simp only [w64_256, w64_m256]
    refine U_takeN (i := 4) (d := 17) (v := ?_) rfl rfl rfl (by kernel_rfl) (by kernel_rfl) (by kernel_rfl) (fun _ _ _ h => h) (Or.inl ⟨by rfl, ?_⟩) hH ?_
    rotate_left
    ·intro w hSw
     try dsimp only at hSw
     go_simp
     try with_reducible rfl
    simp only [LY]
    try simp only [w64_256, w64_m256]
    refine U_takeN (i := 5) (d := 18) (v := ?_) rfl rfl rfl (by kernel_rfl) (by kernel_rfl) (by kernel_rfl) (fun _ _ _ h => h) (Or.inl ⟨by rfl, ?_⟩) hH ?_
    rotate_left
    ·intro w hSw
     try dsimp only at hSw
     go_simp
     try with_reducible rfl
    simp only [LY]
    refine U_takeN (i := 6) (d := 19) (v := undef) rfl rfl rfl (by kernel_rfl) (by kernel_rfl) (by kernel_rfl) (fun _ _ _ h => h) (Or.inr ⟨by rfl, rfl⟩) hH ?_
    simp only [LY]
    refine U_takeN (i := 7) (d := 20) (v := undef) rfl rfl rfl (by kernel_rfl) (by kernel_rfl) (by kernel_rfl) (fun _ _ _ h => h) (Or.inr ⟨by rfl, rfl⟩) hH ?_
    simp only [LY]
    refine U_takeN (i := 8) (d := 21) (v := undef) rfl rfl rfl (by kernel_rfl) (by kernel_rfl) (by kernel_rfl) (fun _ _ _ h => h) (Or.inr ⟨by rfl, rfl⟩) hH ?_
    simp only [LY]
    refine U_takeN (i := 9) (d := 22) (v := undef) rfl rfl rfl (by kernel_rfl) (by kernel_rfl) (by kernel_rfl) (fun _ _ _ h => h) (Or.inr ⟨by rfl, rfl⟩) hH ?_
    simp only [LY]
    refine U_takeN (i := 10) (d := 23) (v := undef) rfl rfl rfl (by kernel_rfl) (by kernel_rfl) (by kernel_rfl) (fun _ _ _ h => h) (Or.inr ⟨by rfl, rfl⟩) hH ?_
    simp only [LY]
    refine U_takeN (i := 11) (d := 24) (v := ?_) rfl rfl rfl (by kernel_rfl) (by kernel_rfl) (by kernel_rfl) (fun _ _ _ h => h) (Or.inl ⟨by rfl, ?_⟩) hH ?_
    rotate_left
    ·intro w hSw
     try dsimp only at hSw
     go_simp
     try with_reducible rfl
    simp only [LY]
    refine U_takeN (i := 12) (d := 25) (v := ?_) rfl rfl rfl (by kernel_rfl) (by kernel_rfl) (by kernel_rfl) (fun _ _ _ h => h) (Or.inl ⟨by rfl, ?_⟩) hH ?_
    rotate_left
    ·intro w hSw
     try dsimp only at hSw
     go_simp
     try with_reducible rfl
    simp only [LY]
    refine U_takeN (i := 13) (d := 26) (v := undef) rfl rfl rfl (by kernel_rfl) (by kernel_rfl) (by kernel_rfl) (fun _ _ _ h => h) (Or.inr ⟨by rfl, rfl⟩) hH ?_
    simp only [LY]
    refine U_takeN (i := 14) (d := 27) (v := undef) rfl rfl rfl (by kernel_rfl) (by kernel_rfl) (by kernel_rfl) (fun _ _ _ h => h) (Or.inr ⟨by rfl, rfl⟩) hH ?_
    simp only [LY]
    refine U_takeN (i := 15) (d := 28) (v := undef) rfl rfl rfl (by kernel_rfl) (by kernel_rfl) (by kernel_rfl) (fun _ _ _ h => h) (Or.inr ⟨by rfl, rfl⟩) hH ?_
    simp only [LY]
    refine U_takeN (i := 16) (d := 29) (v := undef) rfl rfl rfl (by kernel_rfl) (by kernel_rfl) (by kernel_rfl) (fun _ _ _ h => h) (Or.inr ⟨by rfl, rfl⟩) hH ?_
    simp only [LY]
    refine U_takeN (i := 17) (d := 30) (v := undef) rfl rfl rfl (by kernel_rfl) (by kernel_rfl) (by kernel_rfl) (fun _ _ _ h => h) (Or.inr ⟨by rfl, rfl⟩) hH ?_
    simp only [LY]
    refine U_takeN (i := 18) (d := 31) (v := ?_) rfl rfl rfl (by kernel_rfl) (by kernel_rfl) (by kernel_rfl) (fun _ _ _ h => h) (Or.inl ⟨by rfl, ?_⟩) hH ?_
    rotate_left
    ·intro w hSw
     try dsimp only at hSw
     go_simp
     try with_reducible rfl
    simp only [LY]
    clear hH
    refine U_endN (by kernel_rfl) ?_
    clear B0 B1
    go_wp2
    go_ret
    have HF := allF_take smF8 l k _ (fc_some (by omega)) HI.out
    rw [show smF8 (fcA l k) = false by unfold smF8; simp [Hze2a.out, Hze2b.out]; omega] at HF
    have HF2 := allF_false _ l (k + 1) HF
    exact ⟨by rw [HF2]; rfl, hs⟩
   ·have q3d : ((256 : Int) < ze2a) = False := eq_false (by omega)
    by_cases q4 : ze2a < -256
    ·have q4d : (ze2a < -256) = True := eq_true (by omega)
     refine U_region (S := fun w' => w'.cell? ⟨wr.heap.size, 0, none⟩ = some (.int .i64 ze2a) ∧ w'.cell? ⟨wr.heap.size, 1, none⟩ = some (.int .i64 ze2b)) (by kernel_rfl) 19 ?_
     refine AnyU.abs ?_
     intro w22 hW
     have hb : Below w21.heap.size w21 w22 := by rw [hW]; exact bDrew _
     replace hs := bStep hs hb
     replace Blx := Blx.mono hb
     clear hb hW
     have B0 : w22.cell? ⟨wr.heap.size, 0, none⟩ = some (.int .i64 ze2a) := Blx.at 0 rfl
     have B1 : w22.cell? ⟨wr.heap.size, 1, none⟩ = some (.int .i64 ze2b) := Blx.at 1 rfl
     have hH := (show w22.cell? ⟨wr.heap.size, 0, none⟩ = some (.int .i64 ze2a) ∧ w22.cell? ⟨wr.heap.size, 1, none⟩ = some (.int .i64 ze2b) from ⟨B0, B1⟩)
     refine U_takeN (i := 0) (d := 13) (v := ?_) rfl rfl rfl (by kernel_rfl) (by kernel_rfl) (by kernel_rfl) (fun _ _ _ h => h) (Or.inl ⟨by rfl, ?_⟩) hH ?_
     rotate_left
     ·intro w hSw
      try dsimp only at hSw
      go_simp
      try with_reducible rfl
     simp only [LY]
     refine U_takeN (i := 1) (d := 14) (v := ?_) rfl rfl rfl (by kernel_rfl) (by kernel_rfl) (by kernel_rfl) (fun _ _ _ h => h) (Or.inl ⟨by rfl, ?_⟩) hH ?_
     rotate_left
     ·intro w hSw
      try dsimp only at hSw
      go_simp
      try with_reducible rfl
     simp only [LY]
     refine U_takeN (i := 2) (d := 15) (v := ?_) rfl rfl rfl (by kernel_rfl) (by kernel_rfl) (by kernel_rfl) (fun _ _ _ h => h) (Or.inl ⟨by rfl, ?_⟩) hH ?_
     rotate_left
     ·intro w hSw
      try dsimp only at hSw
      go_simp
      try with_reducible rfl
     simp only [LY]
     refine U_takeN (i := 3) (d := 16) (v := ?_) rfl rfl rfl (by kernel_rfl) (by kernel_rfl) (by kernel_rfl) (fun _ _ _ h => h) (Or.inl ⟨by rfl, ?_⟩) hH ?_
     rotate_left
     ·intro w hSw
      try dsimp only at hSw
      go_simp
      try with_reducible rfl
     simp only [LY]
     try simp only [w64_256, w64_m256]
     refine U_takeN (i := 4) (d := 17) (v := ?_) rfl rfl rfl (by kernel_rfl) (by kernel_rfl) (by kernel_rfl) (fun _ _ _ h => h) (Or.inl ⟨by rfl, ?_⟩) hH ?_
     rotate_left
     ·intro w hSw
      try dsimp only at hSw
      go_simp
      try with_reducible rfl
     simp only [LY]
     try simp only [w64_256, w64_m256]
     refine U_takeN (i := 5) (d := 18) (v := ?_) rfl rfl rfl (by kernel_rfl) (by kernel_rfl) (by kernel_rfl) (fun _ _ _ h => h) (Or.inl ⟨by rfl, ?_⟩) hH ?_
     rotate_left
     ·intro w hSw
      try dsimp only at hSw
      go_simp
      try with_reducible rfl
     simp only [LY]
     refine U_takeN (i := 6) (d := 19) (v := ?_) rfl rfl rfl (by kernel_rfl) (by kernel_rfl) (by kernel_rfl) (fun _ _ _ h => h) (Or.inl ⟨by rfl, ?_⟩) hH ?_
     rotate_left
     ·intro w hSw
      try dsimp only at hSw
      go_simp
      try with_reducible rfl
     simp only [LY]
     refine U_takeN (i := 7) (d := 20) (v := ?_) rfl rfl rfl (by kernel_rfl) (by kernel_rfl) (by kernel_rfl) (fun _ _ _ h => h) (Or.inl ⟨by rfl, ?_⟩) hH ?_
     rotate_left
     ·intro w hSw
      try dsimp only at hSw
      go_simp
      try with_reducible rfl
     simp only [LY]
     refine U_takeN (i := 8) (d := 21) (v := ?_) rfl rfl rfl (by kernel_rfl) (by kernel_rfl) (by kernel_rfl) (fun _ _ _ h => h) (Or.inl ⟨by rfl, ?_⟩) hH ?_
     rotate_left
     ·intro w hSw
      try dsimp only at hSw
      go_simp
      try with_reducible rfl
     simp only [LY]
     refine U_takeN (i := 9) (d := 22) (v := ?_) rfl rfl rfl (by kernel_rfl) (by kernel_rfl) (by kernel_rfl) (fun _ _ _ h => h) (Or.inl ⟨by rfl, ?_⟩) hH ?_
     rotate_left
     ·intro w hSw
      try dsimp only at hSw
      go_simp
      try with_reducible rfl
     simp only [LY]
     try simp only [w64_256, w64_m256]
     refine U_takeN (i := 10) (d := 23) (v := ?_) rfl rfl rfl (by kernel_rfl) (by kernel_rfl) (by kernel_rfl) (fun _ _ _ h => h) (Or.inl ⟨by rfl, ?_⟩) hH ?_
     rotate_left
     ·intro w hSw
      try dsimp only at hSw
      go_simp
      try with_reducible rfl
     simp only [LY]
     try simp only [w64_256, w64_m256]
     refine U_takeN (i := 11) (d := 24) (v := ?_) rfl rfl rfl (by kernel_rfl) (by kernel_rfl) (by kernel_rfl) (fun _ _ _ h => h) (Or.inl ⟨by rfl, ?_⟩) hH ?_
     rotate_left
     ·intro w hSw
      try dsimp only at hSw
      go_simp
      try with_reducible rfl
     simp only [LY]
     refine U_takeN (i := 12) (d := 25) (v := ?_) rfl rfl rfl (by kernel_rfl) (by kernel_rfl) (by kernel_rfl) (fun _ _ _ h => h) (Or.inl ⟨by rfl, ?_⟩) hH ?_
     rotate_left
     ·intro w hSw
      try dsimp only at hSw
      go_simp
      try with_reducible rfl
     simp only [LY]
     refine U_takeN (i := 13) (d := 26) (v := undef) rfl rfl rfl (by kernel_rfl) (by kernel_rfl) (by kernel_rfl) (fun _ _ _ h => h) (Or.inr ⟨by rfl, rfl⟩) hH ?_
     simp only [LY]
     refine U_takeN (i := 14) (d := 27) (v := undef) rfl rfl rfl (by kernel_rfl) (by kernel_rfl) (by kernel_rfl) (fun _ _ _ h => h) (Or.inr ⟨by rfl, rfl⟩) hH ?_
     simp only [LY]
     refine U_takeN (i := 15) (d := 28) (v := undef) rfl rfl rfl (by kernel_rfl) (by kernel_rfl) (by kernel_rfl) (fun _ _ _ h => h) (Or.inr ⟨by rfl, rfl⟩) hH ?_
     simp only [LY]
     refine U_takeN (i := 16) (d := 29) (v := undef) rfl rfl rfl (by kernel_rfl) (by kernel_rfl) (by kernel_rfl) (fun _ _ _ h => h) (Or.inr ⟨by rfl, rfl⟩) hH ?_
     simp only [LY]
     refine U_takeN (i := 17) (d := 30) (v := undef) rfl rfl rfl (by kernel_rfl) (by kernel_rfl) (by kernel_rfl) (fun _ _ _ h => h) (Or.inr ⟨by rfl, rfl⟩) hH ?_
     simp only [LY]
     refine U_takeN (i := 18) (d := 31) (v := ?_) rfl rfl rfl (by kernel_rfl) (by kernel_rfl) (by kernel_rfl) (fun _ _ _ h => h) (Or.inl ⟨by rfl, ?_⟩) hH ?_
     rotate_left
     ·intro w hSw
      try dsimp only at hSw
      go_simp
      try with_reducible rfl
     simp only [LY]
     clear hH
     refine U_endN (by kernel_rfl) ?_
     clear B0 B1
     go_wp2
     go_ret
     have HF := allF_take smF8 l k _ (fc_some (by omega)) HI.out
     rw [show smF8 (fcA l k) = false by unfold smF8; simp [Hze2a.out, Hze2b.out]; omega] at HF
     have HF2 := allF_false _ l (k + 1) HF
     exact ⟨by rw [HF2]; rfl, hs⟩
    ·have q4d : (ze2a < -256) = False := eq_false (by omega)
     refine U_region (S := fun w' => w'.cell? ⟨wr.heap.size, 0, none⟩ = some (.int .i64 ze2a) ∧ w'.cell? ⟨wr.heap.size, 1, none⟩ = some (.int .i64 ze2b)) (by kernel_rfl) 19 ?_
     refine AnyU.abs ?_
     intro w22 hW
     have hb : Below w21.heap.size w21 w22 := by rw [hW]; exact bDrew _
     replace hs := bStep hs hb
     replace Blx := Blx.mono hb
     clear hb hW
     have B0 : w22.cell? ⟨wr.heap.size, 0, none⟩ = some (.int .i64 ze2a) := Blx.at 0 rfl
     have B1 : w22.cell? ⟨wr.heap.size, 1, none⟩ = some (.int .i64 ze2b) := Blx.at 1 rfl
     have hH := (show w22.cell? ⟨wr.heap.size, 0, none⟩ = some (.int .i64 ze2a) ∧ w22.cell? ⟨wr.heap.size, 1, none⟩ = some (.int .i64 ze2b) from ⟨B0, B1⟩)
     refine U_takeN (i := 0) (d := 13) (v := ?_) rfl rfl rfl (by kernel_rfl) (by kernel_rfl) (by kernel_rfl) (fun _ _ _ h => h) (Or.inl ⟨by rfl, ?_⟩) hH ?_
     rotate_left
     ·intro w hSw
      try dsimp only at hSw
      go_simp
      try with_reducible rfl
     simp only [LY]
     refine U_takeN (i := 1) (d := 14) (v := ?_) rfl rfl rfl (by kernel_rfl) (by kernel_rfl) (by kernel_rfl) (fun _ _ _ h => h) (Or.inl ⟨by rfl, ?_⟩) hH ?_
     rotate_left
     ·intro w hSw
      try dsimp only at hSw
      go_simp
      try with_reducible rfl
     simp only [LY]
     refine U_takeN (i := 2) (d := 15) (v := ?_) rfl rfl rfl (by kernel_rfl) (by kernel_rfl) (by kernel_rfl) (fun _ _ _ h => h) (Or.inl ⟨by rfl, ?_⟩) hH ?_
     rotate_left
     ·intro w hSw
      try dsimp only at hSw
      go_simp
      try with_reducible rfl
     simp only [LY]
     refine U_takeN (i := 3) (d := 16) (v := ?_) rfl rfl rfl (by kernel_rfl) (by kernel_rfl) (by kernel_rfl) (fun _ _ _ h => h) (Or.inl ⟨by rfl, ?_⟩) hH ?_
     rotate_left
     ·intro w hSw
      try dsimp only at hSw
      go_simp
      try with_reducible rfl
     simp only [LY]
     try simp only [w64_256, w64_m256]
     refine U_takeN (i := 4) (d := 17) (v := ?_) rfl rfl rfl (by kernel_rfl) (by kernel_rfl) (by kernel_rfl) (fun _ _ _ h => h) (Or.inl ⟨by rfl, ?_⟩) hH ?_
     rotate_left
     ·intro w hSw
      try dsimp only at hSw
      go_simp
      try with_reducible rfl
     simp only [LY]
     try simp only [w64_256, w64_m256]
     refine U_takeN (i := 5) (d := 18) (v := ?_) rfl rfl rfl (by kernel_rfl) (by kernel_rfl) (by kernel_rfl) (fun _ _ _ h => h) (Or.inl ⟨by rfl, ?_⟩) hH ?_
     rotate_left
     ·intro w hSw
      try dsimp only at hSw
      go_simp
      try with_reducible rfl
     simp only [LY]
     refine U_takeN (i := 6) (d := 19) (v := ?_) rfl rfl rfl (by kernel_rfl) (by kernel_rfl) (by kernel_rfl) (fun _ _ _ h => h) (Or.inl ⟨by rfl, ?_⟩) hH ?_
     rotate_left
     ·intro w hSw
      try dsimp only at hSw
      go_simp
      try with_reducible rfl
     simp only [LY]
     refine U_takeN (i := 7) (d := 20) (v := ?_) rfl rfl rfl (by kernel_rfl) (by kernel_rfl) (by kernel_rfl) (fun _ _ _ h => h) (Or.inl ⟨by rfl, ?_⟩) hH ?_
     rotate_left
     ·intro w hSw
      try dsimp only at hSw
      go_simp
      try with_reducible rfl
     simp only [LY]
     refine U_takeN (i := 8) (d := 21) (v := ?_) rfl rfl rfl (by kernel_rfl) (by kernel_rfl) (by kernel_rfl) (fun _ _ _ h => h) (Or.inl ⟨by rfl, ?_⟩) hH ?_
     rotate_left
     ·intro w hSw
      try dsimp only at hSw
      go_simp
      try with_reducible rfl
     simp only [LY]
     refine U_takeN (i := 9) (d := 22) (v := ?_) rfl rfl rfl (by kernel_rfl) (by kernel_rfl) (by kernel_rfl) (fun _ _ _ h => h) (Or.inl ⟨by rfl, ?_⟩) hH ?_
     rotate_left
     ·intro w hSw
      try dsimp only at hSw
      go_simp
      try with_reducible rfl
     simp only [LY]
     try simp only [w64_256, w64_m256]
     refine U_takeN (i := 10) (d := 23) (v := ?_) rfl rfl rfl (by kernel_rfl) (by kernel_rfl) (by kernel_rfl) (fun _ _ _ h => h) (Or.inl ⟨by rfl, ?_⟩) hH ?_
     rotate_left
     ·intro w hSw
      try dsimp only at hSw
      go_simp
      try with_reducible rfl
     simp only [LY]
     try simp only [w64_256, w64_m256]
     refine U_takeN (i := 11) (d := 24) (v := ?_) rfl rfl rfl (by kernel_rfl) (by kernel_rfl) (by kernel_rfl) (fun _ _ _ h => h) (Or.inl ⟨by rfl, ?_⟩) hH ?_
     rotate_left
     ·intro w hSw
      try dsimp only at hSw
      go_simp
      try with_reducible rfl
     simp only [LY]
     refine U_takeN (i := 12) (d := 25) (v := ?_) rfl rfl rfl (by kernel_rfl) (by kernel_rfl) (by kernel_rfl) (fun _ _ _ h => h) (Or.inl ⟨by rfl, ?_⟩) hH ?_
     rotate_left
     ·intro w hSw
      try dsimp only at hSw
      go_simp
      try with_reducible rfl
     simp only [LY]
     refine U_takeN (i := 13) (d := 26) (v := ?_) rfl rfl rfl (by kernel_rfl) (by kernel_rfl) (by kernel_rfl) (fun _ _ _ h => h) (Or.inl ⟨by rfl, ?_⟩) hH ?_
     rotate_left
     ·intro w hSw
      try dsimp only at hSw
      go_simp
      try with_reducible rfl
     simp only [LY]
     refine U_takeN (i := 14) (d := 27) (v := ?_) rfl rfl rfl (by kernel_rfl) (by kernel_rfl) (by kernel_rfl) (fun _ _ _ h => h) (Or.inl ⟨by rfl, ?_⟩) hH ?_
     rotate_left
     ·intro w hSw
      try dsimp only at hSw
      go_simp
      try with_reducible rfl
     simp only [LY]
     refine U_takeN (i := 15) (d := 28) (v := ?_) rfl rfl rfl (by kernel_rfl) (by kernel_rfl) (by kernel_rfl) (fun _ _ _ h => h) (Or.inl ⟨by rfl, ?_⟩) hH ?_
     rotate_left
     ·intro w hSw
      try dsimp only at hSw
      go_simp
      try with_reducible rfl
     simp only [LY]
     refine U_takeN (i := 16) (d := 29) (v := ?_) rfl rfl rfl (by kernel_rfl) (by kernel_rfl) (by kernel_rfl) (fun _ _ _ h => h) (Or.inl ⟨by rfl, ?_⟩) hH ?_
     rotate_left
     ·intro w hSw
      try dsimp only at hSw
      go_simp
      try with_reducible rfl
     simp only [LY]
     try simp only [w64_256, w64_m256]
     refine U_takeN (i := 17) (d := 30) (v := ?_) rfl rfl rfl (by kernel_rfl) (by kernel_rfl) (by kernel_rfl) (fun _ _ _ h => h) (Or.inl ⟨by rfl, ?_⟩) hH ?_
     rotate_left
     ·intro w hSw
      try dsimp only at hSw
      go_simp
      try with_reducible rfl
     simp only [LY]
     try simp only [w64_256, w64_m256]
     refine U_takeN (i := 18) (d := 31) (v := ?_) rfl rfl rfl (by kernel_rfl) (by kernel_rfl) (by kernel_rfl) (fun _ _ _ h => h) (Or.inl ⟨by rfl, ?_⟩) hH ?_
     rotate_left
     ·intro w hSw
      try dsimp only at hSw
      go_simp
      try with_reducible rfl
     simp only [LY]
     clear hH
     refine U_endN (by kernel_rfl) ?_
     clear B0 B1
     by_cases q5 : 256 < ze2b
     ·have q5d : ((256 : Int) < ze2b) = True := eq_true (by omega)
      go_wp2
      go_ret
      have HF := allF_take smF8 l k _ (fc_some (by omega)) HI.out
      rw [show smF8 (fcA l k) = false by unfold smF8; simp [Hze2a.out, Hze2b.out]; omega] at HF
      have HF2 := allF_false _ l (k + 1) HF
      exact ⟨by rw [HF2]; rfl, hs⟩
     ·have q5d : ((256 : Int) < ze2b) = False := eq_false (by omega)
      go_wp2
      go_roundw
      case rel => exact ⟨k + 1, by omega, by go_num, hs, ((allF_take smF8 l k _ (fc_some (by omega)) HI.out).trans (by unfold smF8; simp [Hze2a.out, Hze2b.out]; omega))⟩
      all_goals first | (simp [intOf]; done) | (simp [intOf]; omega)
  ·have q1d : ((k : Int) < (l.length : Int)) = False := eq_false (by omega)
   go_wp2
   go_ret
   have hp := HI.out
   rw [List.take_of_length_le (by omega)] at hp
   exact ⟨by rw [hp]; rfl, hs⟩
theorem smF8_sz {n d : Int} (h : smF8 (n, d) = true) : SzQ 1 (fracQ n d) := by
 unfold smF8 at h
 simp at h
 unfold fracQ
 split
 ·exact szQ_int (by omega)
 ·exact szQ_frac (by omega) (by omega) (by omega)
theorem rowsFt3 {w : World} {g : Nat} {T : TypeId} {n1 d1 n2 d2 n3 d3 : Int} (h : Bx w g T #[.int .i64 n1, .int .i64 d1, .int .i64 n2, .int .i64 d2, .int .i64 n3, .int .i64 d3]) : RowsI 2 FC w (.slice (some ⟨g, 0, none⟩) 3 3) [(n1, d1), (n2, d2), (n3, d3)] := by
 refine ⟨_, 3, rfl, Nat.le_refl _, by decide, (fun e => by cases e), fun i x hx => ?_⟩
 match i, hx with
 | 0, hx =>
  cases hx
  refine ⟨g, 0, [.int .i64 n1, .int .i64 d1], rfl, rfl, fun j u hu => ?_, rfl⟩
  match j, hu with
  | 0, hu => cases hu; exact h.at 0 rfl
  | 1, hu => cases hu; exact h.at 1 rfl
 | 1, hx =>
  cases hx
  refine ⟨g, 0, [.int .i64 n2, .int .i64 d2], rfl, rfl, fun j u hu => ?_, rfl⟩
  match j, hu with
  | 0, hu => cases hu; exact h.at 2 rfl
  | 1, hu => cases hu; exact h.at 3 rfl
 | 2, hx =>
  cases hx
  refine ⟨g, 0, [.int .i64 n3, .int .i64 d3], rfl, rfl, fun j u hu => ?_, rfl⟩
  match j, hu with
  | 0, hu => cases hu; exact h.at 4 rfl
  | 1, hu => cases hu; exact h.at 5 rfl
theorem l1_Is (vx vy : Value) (x : Rat) (w : World) (hx : PV w vx x) (hy : RV w vy x) (fx : Fit x) : Calls Tryz.prog 17 #[vx, vy] w (RetV w (.bool true)) := by
 obtain ⟨gx, ax, nx, cx, Ax, Nx, Cx, rfl⟩ := hx.shape
 obtain ⟨gy, ay, ny, cy, Ay, Ny, Cy, rfl⟩ := hy.shape
 obtain ⟨s, hss⟩ : ∃ s, strV (textQ x) = .string s := ⟨_, rfl⟩
 have hs := Below.refl w.heap.size w
 go_enter Tryz.func17, Tryz.ntmps17
 go_wp2_with fail
 refine Code.abs ?_
 intro w1 hW
 have hsz := hs.size
 have hbw : Below w.heap.size w w1 := by rw [hW]; exact (Below.alloc (Below.alloc (Below.refl w.heap.size w) (by first | exact hs.size | (have := hs.size; simp; done) | (have := hs.size; simp; omega)) _) (by first | exact hs.size | (have := hs.size; simp; done) | (have := hs.size; simp; omega)) _)
 have hs1 : Below w.heap.size w w1 := hs.trans hbw
 have hk : KeepD w w1 := by rw [hW]; exact (((KeepD.refl _).alloc _).alloc _)
 have Bl1x : Bx w1 (w.heap.size) 34 #[.bool gx, .slice ax nx cx, .slice Ax Nx Cx] := by rw [hW]; exact ((Bx.new' _ _ _ _ (by first | rfl | (simp; done))).alloc _)
 have Bl1y : Bx w1 (w.heap.size + 1) 41 #[.bool gy, .slice ay ny cy, .slice Ay Ny Cy] := by rw [hW]; exact (Bx.new' _ _ _ _ (by first | rfl | (simp; done)))
 replace hs := hs1
 clear hs1
 have Blx := Bl1x
 clear Bl1x
 have Bly := Bl1y
 clear Bl1y
 replace hx := hx.keep hk
 replace hy := hy.keep hk
 clear hW hk hsz hbw
 have hz_w1 : w.heap.size + 1 < w1.heap.size := Bly.lt
 have hb := bDrew w1
 replace hs := bStep hs hb
 replace Blx := Blx.mono hb
 replace Bly := Bly.mono hb
 replace hx := hx.mono hb
 replace hy := hy.mono hb
 clear hb
 have B0 : (w1.drew).cell? ⟨w.heap.size, 0, none⟩ = some (.bool gx) := Blx.at 0 rfl
 have B1 : (w1.drew).cell? ⟨w.heap.size, 1, none⟩ = some (.slice ax nx cx) := Blx.at 1 rfl
 have B8 : (w1.drew).cell? ⟨w.heap.size, 2, none⟩ = some (.slice Ax Nx Cx) := Blx.at 2 rfl
 have B2 : (w1.drew).cell? ⟨w.heap.size + 1, 0, none⟩ = some (.bool gy) := Bly.at 0 rfl
 have B3 : (w1.drew).cell? ⟨w.heap.size + 1, 1, none⟩ = some (.slice ay ny cy) := Bly.at 1 rfl
 have B4 : (w1.drew).cell? ⟨w.heap.size + 1, 2, none⟩ = some (.slice Ay Ny Cy) := Bly.at 2 rfl
 go_region_held3 (fun w' => w'.cell? ⟨w.heap.size, 0, none⟩ = some (.bool gx) ∧ w'.cell? ⟨w.heap.size, 1, none⟩ = some (.slice ax nx cx) ∧ w'.cell? ⟨w.heap.size, 2, none⟩ = some (.slice Ax Nx Cx) ∧ w'.cell? ⟨w.heap.size + 1, 0, none⟩ = some (.bool gy) ∧ w'.cell? ⟨w.heap.size + 1, 1, none⟩ = some (.slice ay ny cy) ∧ w'.cell? ⟨w.heap.size + 1, 2, none⟩ = some (.slice Ay Ny Cy))
  (first | exact ⟨B0, B1, B8, B2, B3, B4⟩ | exact ⟨cellA B0 _, cellA B1 _, cellA B8 _, cellA B2 _, cellA B3 _, cellA B4 _⟩ | go_keep)
  (first
   | (go_at_call 23; (with_reducible refine (pTextS hss hx fx).mono ?_); rintro e w2 ⟨rfl, hb⟩; replace hs := bStep hs hb; replace Blx := Blx.mono hb; replace Bly := Bly.mono hb; replace hx := hx.mono hb; replace hy := hy.mono hb; replace B0 := cellK B0 hb; replace B1 := cellK B1 hb; replace B8 := cellK B8 hb; replace B2 := cellK B2 hb; replace B3 := cellK B3 hb; replace B4 := cellK B4 hb; clear hb)
   | (go_at_call 50; (with_reducible refine (rTextS hss hy fx).mono ?_); rintro e w3 ⟨rfl, hb⟩; replace hs := bStep hs hb; replace Blx := Blx.mono hb; replace Bly := Bly.mono hb; replace hx := hx.mono hb; replace hy := hy.mono hb; replace B0 := cellK B0 hb; replace B1 := cellK B1 hb; replace B8 := cellK B8 hb; replace B2 := cellK B2 hb; replace B3 := cellK B3 hb; replace B4 := cellK B4 hb; clear hb))
 clear B0 B1 B8 B2 B3 B4
 go_wp2
 go_ret
 exact ⟨by simp, hs⟩
theorem r1_Of_le (n d : Int) (w : World) (h0 : -9223372036854775808 ≤ n) (h1 : n ≤ 9223372036854775807) (d0 : -9223372036854775808 ≤ d) (d1 : d ≤ 9223372036854775807) (hd : d ≤ 0) : Calls Tryz.prog 10 #[.agg #[.int .i64 n, .int .i64 d]] w (RetQ w ((n : Rat))) := by
 have hs := Below.refl w.heap.size w
 go_enter Tryz.func10, Tryz.ntmps10
 have q1 : d ≤ 0 := (by omega)
 have q1d : (d ≤ 0) = True := eq_true (by omega)
 go_wp2_with fail
 refine Calls.abs ?_
 intro w1 hW
 have hG : Gr [] w w1 := by rw [hW]; exact (Gr.refl _ _).alloc.alloc
 have hbw : Below w.heap.size w w1 := hG.below0 hs.size
 have hk : KeepD w w1 := hG.keep True.intro
 have sz_w1 : w.heap.size ≤ w.heap.size := hs.size
 have Blx : Bx w1 (w.heap.size) 24 #[.int .i64 n, .int .i64 d] := by rw [hW]; exact ((Bx.new0 _ _ _).alloc _)
 have Blk : Bx w1 (w.heap.size + 1) 41 #[.bool false, .slice none 0 0, .slice none 0 0] := by rw [hW]; exact (Bx.new0 _ _ _)
 replace hs := hs.trans hbw
 clear hW hG hk hbw
 have hz_w1 : w.heap.size + 1 < w1.heap.size := Blk.lt
 with_reducible refine (r_Int_calls n _ h0 h1).mono ?_
 rintro e w2 ⟨_, rfl, h2, hb⟩
 obtain ⟨sh2, ah2, nh2, ch2, Ah2, Nh2, Ch2, rfl⟩ := h2.shape
 replace hs := bStep hs hb
 replace Blx := Blx.mono hb
 replace Blk := Blk.mono hb
 clear hb
 have B5 : w2.cell? ⟨w.heap.size + 1, 0, none⟩ = some (.bool false) := Blk.at 0 rfl
 have B6 : w2.cell? ⟨w.heap.size + 1, 1, none⟩ = some (.slice none 0 0) := Blk.at 1 rfl
 have B7 : w2.cell? ⟨w.heap.size + 1, 2, none⟩ = some (.slice none 0 0) := Blk.at 2 rfl
 have fk := Blk.free
 have Lk : w.heap.size + 1 < w2.heap.size := Blk.lt
 go_wp2
 clear B5 B6 B7 fk Lk
 refine bodyPost.abs ?_
 intro w3 hW
 have hG : Gr [w.heap.size + 1] w2 w3 := by rw [hW]; exact (Gr.refl _ _).set.set.set
 have hsz := hs.size
 have lk := Blk.lt
 have hbw : Below w.heap.size w2 w3 := hG.below1 hs.size (by first | omega | assumption)
 have hk : KeepD w2 w3 := hG.keep ⟨⟨_, Blk.ty, by decide⟩, True.intro⟩
 have Bl1k : Bx w3 (w.heap.size + 1) 41 #[.bool sh2, .slice ah2 nh2 ch2, .slice Ah2 Nh2 Ch2] := by rw [hW]; exact Blk.set3
 replace hs := hs.trans hbw
 replace Blx := hG.bx Blx (notMem1 (by omega))
 replace Blk := Bl1k
 clear Bl1k
 replace h2 := h2.keep hk
 clear hW hG hk hbw hsz lk
 have B5 : w3.cell? ⟨w.heap.size + 1, 0, none⟩ = some (.bool sh2) := Blk.at 0 rfl
 have B6 : w3.cell? ⟨w.heap.size + 1, 1, none⟩ = some (.slice ah2 nh2 ch2) := Blk.at 1 rfl
 have B7 : w3.cell? ⟨w.heap.size + 1, 2, none⟩ = some (.slice Ah2 Nh2 Ch2) := Blk.at 2 rfl
 exact bodyPost_ret (v := .agg #[.bool sh2, .slice ah2 nh2 ch2, .slice Ah2 Nh2 Ch2]) (by simp [results, Tryz.results10, go_sem, B5, B6, B7]) rfl ⟨_, rfl, h2, hs⟩
theorem r1_Of_gt (n d : Int) (w : World) (h0 : -9223372036854775808 ≤ n) (h1 : n ≤ 9223372036854775807) (d0 : -9223372036854775808 ≤ d) (d1 : d ≤ 9223372036854775807) (hd : ¬ d ≤ 0) : Calls Tryz.prog 10 #[.agg #[.int .i64 n, .int .i64 d]] w (RetQ w ((n : Rat) / (d : Rat))) := by
 have hs := Below.refl w.heap.size w
 go_enter Tryz.func10, Tryz.ntmps10
 have q1 : ¬ (d ≤ 0) := (by omega)
 have q1d : (d ≤ 0) = False := eq_false (by omega)
 go_wp2_with fail
 refine Calls.abs ?_
 intro w1 hW
 have hG : Gr [] w w1 := by rw [hW]; exact (Gr.refl _ _).alloc.alloc
 have hbw : Below w.heap.size w w1 := hG.below0 hs.size
 have hk : KeepD w w1 := hG.keep True.intro
 have sz_w1 : w.heap.size ≤ w.heap.size := hs.size
 have Blx : Bx w1 (w.heap.size) 24 #[.int .i64 n, .int .i64 d] := by rw [hW]; exact ((Bx.new0 _ _ _).alloc _)
 have Blk : Bx w1 (w.heap.size + 1) 41 #[.bool false, .slice none 0 0, .slice none 0 0] := by rw [hW]; exact (Bx.new0 _ _ _)
 replace hs := hs.trans hbw
 clear hW hG hk hbw
 have hz_w1 : w.heap.size + 1 < w1.heap.size := Blk.lt
 with_reducible refine (r_New_calls n d _ h0 h1 (by omega) d1 (by omega)).mono ?_
 rintro e w2 ⟨_, rfl, h2, hb⟩
 obtain ⟨sh2, ah2, nh2, ch2, Ah2, Nh2, Ch2, rfl⟩ := h2.shape
 replace hs := bStep hs hb
 replace Blx := Blx.mono hb
 replace Blk := Blk.mono hb
 clear hb
 go_upto_region 4 with fail
 refine Code.abs ?_
 intro w3 hW
 have hG : Gr [] w2 w3 := by rw [hW]; exact (Gr.refl _ _).alloc
 have hbw : Below w.heap.size w2 w3 := hG.below0 hs.size
 have hk : KeepD w2 w3 := hG.keep True.intro
 have sz_w3 : w.heap.size ≤ w2.heap.size := hs.size
 have nx_w3 : w.heap.size < w2.heap.size := Blx.lt
 have nk_w3 : w.heap.size + 1 < w2.heap.size := Blk.lt
 have Bly : Bx w3 (w2.heap.size) 41 #[.bool sh2, .slice ah2 nh2 ch2, .slice Ah2 Nh2 Ch2] := by rw [hW]; exact (Bx.new0 _ _ _)
 replace hs := hs.trans hbw
 replace Blx := hG.bx Blx notMem0
 replace Blk := hG.bx Blk notMem0
 replace h2 := h2.keep hk
 clear hW hG hk hbw
 have hz_w3 : w2.heap.size < w3.heap.size := Bly.lt
 have B2 : w3.cell? ⟨w2.heap.size, 0, none⟩ = some (.bool sh2) := Bly.at 0 rfl
 have B3 : w3.cell? ⟨w2.heap.size, 1, none⟩ = some (.slice ah2 nh2 ch2) := Bly.at 1 rfl
 have B4 : w3.cell? ⟨w2.heap.size, 2, none⟩ = some (.slice Ah2 Nh2 Ch2) := Bly.at 2 rfl
 have Ly : w2.heap.size < w3.heap.size := Bly.lt
 have B5 : w3.cell? ⟨w.heap.size + 1, 0, none⟩ = some (.bool false) := Blk.at 0 rfl
 have B6 : w3.cell? ⟨w.heap.size + 1, 1, none⟩ = some (.slice none 0 0) := Blk.at 1 rfl
 have B7 : w3.cell? ⟨w.heap.size + 1, 2, none⟩ = some (.slice none 0 0) := Blk.at 2 rfl
 have fk := Blk.free
 have Lk : w.heap.size + 1 < w3.heap.size := Blk.lt
 go_wp2
 clear B2 B3 B4 B5 B6 B7 fk Ly Lk
 refine bodyPost.abs ?_
 intro w4 hW
 have hG : Gr [w.heap.size + 1] w3 w4 := by rw [hW]; exact (Gr.refl _ _).set.set.set
 have hsz := hs.size
 have lk := Blk.lt
 have hbw : Below w.heap.size w3 w4 := hG.below1 hs.size (by first | omega | assumption)
 have hk : KeepD w3 w4 := hG.keep ⟨⟨_, Blk.ty, by decide⟩, True.intro⟩
 have Bl1k : Bx w4 (w.heap.size + 1) 41 #[.bool sh2, .slice ah2 nh2 ch2, .slice Ah2 Nh2 Ch2] := by rw [hW]; exact Blk.set3
 replace hs := hs.trans hbw
 replace Blx := hG.bx Blx (notMem1 (by omega))
 replace Bly := hG.bx Bly (notMem1 (by omega))
 replace Blk := Bl1k
 clear Bl1k
 replace h2 := h2.keep hk
 clear hW hG hk hbw hsz lk
 have B5 : w4.cell? ⟨w.heap.size + 1, 0, none⟩ = some (.bool sh2) := Blk.at 0 rfl
 have B6 : w4.cell? ⟨w.heap.size + 1, 1, none⟩ = some (.slice ah2 nh2 ch2) := Blk.at 1 rfl
 have B7 : w4.cell? ⟨w.heap.size + 1, 2, none⟩ = some (.slice Ah2 Nh2 Ch2) := Blk.at 2 rfl
 exact bodyPost_ret (v := .agg #[.bool sh2, .slice ah2 nh2 ch2, .slice Ah2 Nh2 Ch2]) (by simp [results, Tryz.results10, go_sem, B5, B6, B7]) rfl ⟨_, rfl, h2, hs⟩
theorem r1_Of {n d : Int} {q : Rat} (w : World) (h0 : -9223372036854775808 ≤ n) (h1 : n ≤ 9223372036854775807) (d0 : -9223372036854775808 ≤ d) (d1 : d ≤ 9223372036854775807) (hq : fracQ n d = q) : Calls Tryz.prog 10 #[.agg #[.int .i64 n, .int .i64 d]] w (RetQ w q) := by
 by_cases hd : d ≤ 0
 ·rw [← hq, show fracQ n d = (n : Rat) from if_pos hd]; exact r1_Of_le n d w h0 h1 d0 d1 hd
 ·rw [← hq, show fracQ n d = (n : Rat) / (d : Rat) from if_neg hd]; exact r1_Of_gt n d w h0 h1 d0 d1 hd
theorem l1_Of_ {n d : Int} {q : Rat} (w : World) (o : -9223372036854775808 ≤ n ∧ n ≤ 9223372036854775807 ∧ -9223372036854775808 ≤ d ∧ d ≤ 9223372036854775807) (hq : fracQ n d = q) : Calls Tryz.prog 8 #[.agg #[.int .i64 n, .int .i64 d]] w (RetP w q) := l1_Of w o.1 o.2.1 o.2.2.1 o.2.2.2 hq
theorem r1_Of_ {n d : Int} {q : Rat} (w : World) (o : -9223372036854775808 ≤ n ∧ n ≤ 9223372036854775807 ∧ -9223372036854775808 ≤ d ∧ d ≤ 9223372036854775807) (hq : fracQ n d = q) : Calls Tryz.prog 10 #[.agg #[.int .i64 n, .int .i64 d]] w (RetQ w q) := r1_Of w o.1 o.2.1 o.2.2.1 o.2.2.2 hq
end Go.Proofs.YtlmemilmhdhgbaaGreat
