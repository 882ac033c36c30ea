/-
  Law 07: are, at two lists of the same fractions.
-/
import Derived.Test.YtkfekkhhfpkfaaaGreatPkLawG
import Derived.Test.YtkfekkhhfpkfaaaGreatPkGrG
import Derived.Test.YtkfekkhhfpkfaaaGreatPkOwnG
import Derived.Test.YtkfekkhhfpkfaaaGreatPkHeld3G
set_option linter.unusedSimpArgs false
set_option linter.unusedVariables false
set_option maxRecDepth 100000
set_option maxHeartbeats 4000000
namespace Go.Proofs.YtkfekkhhfpkfaaaGreat
open Go.RowKit Dg
attribute [local go_sem ↓] Go.wp_at_zero Go.wp_at_succ
theorem l7_are_some {va vb : Value} {L : List Rat} (w : World) (ha : Rows 3 32 PC w va L) (hq : Rows 3 38 RC w vb L) (hl : 0 < L.length) (hz : ∀ i, i < L.length → SzQ 30000 (nthQ L i)) : Calls Tryz.prog 12 #[va, vb] w (RetV w (.bool true)) := by
 obtain ⟨bha, oha, kha, rfl, ha1, ha2, -⟩ := ha.open_ (by omega)
 obtain ⟨bhq, ohq, khq, rfl, hq1, hq2, -⟩ := hq.open_ (by omega)
 have hs := Below.refl w.heap.size w
 have HZ := Lib.hid hz
 clear hz
 go_enter Tryz.func12, Tryz.ntmps12
 have q1b : ((L.length : Int) == (L.length : Int)) = true := beq_self_eq_true _
 have q1n : ((L.length : Int) != (L.length : Int)) = false := bne_self_eq_false _
 go_wp2
 go_loopw [13] (fun s13 wq => ∃ k : Nat, k ≤ L.length ∧ s13 = .int .i64 k ∧ Below w.heap.size w wq ∧ Rows 3 32 PC wq (.slice (some ⟨bha, oha, none⟩) L.length kha) L ∧ Rows 3 38 RC wq (.slice (some ⟨bhq, ohq, none⟩) L.length khq) L) (fun s13 _ => L.length - (intOf s13).toNat)
 case atStart => exact ⟨0, Nat.zero_le _, rfl, hs, ha, hq⟩
 case round =>
  clear ha hq hs
  obtain ⟨k, k_le, rfl, hs, ha, hq⟩ := hrel
  by_cases q2 : k < L.length
  ·have q2d : ((k : Int) < (L.length : Int)) = True := eq_true (by omega)
   go_upto_region 6 with fail
   have BI3a : k < L.length := by omega
   have BI3b : ((k : Int) : Int) < (L.length : Int) := by omega
   obtain ⟨ge4a, ae4a, ne4a, ce4a, Ae4a, Ne4a, De4a, B0, B1, B2, he4a, le4⟩ := rowP_at ha (show k < L.length by omega)
   obtain ⟨ge5a, ae5a, ne5a, ce5a, Ae5a, Ne5a, De5a, B3, B4, B5, he5a, le5⟩ := rowR_at hq (show k < L.length by omega)
   refine U_region (S := fun w' => w'.cell? ⟨bha, oha + k * 3, none⟩ = some (.bool ge4a) ∧ w'.cell? ⟨bha, oha + k * 3 + 1, none⟩ = some (.slice ae4a ne4a ce4a) ∧ w'.cell? ⟨bha, oha + k * 3 + 2, none⟩ = some (.slice Ae4a Ne4a De4a) ∧ w'.cell? ⟨bhq, ohq + k * 3, none⟩ = some (.bool ge5a) ∧ w'.cell? ⟨bhq, ohq + k * 3 + 1, none⟩ = some (.slice ae5a ne5a ce5a) ∧ w'.cell? ⟨bhq, ohq + k * 3 + 2, none⟩ = some (.slice Ae5a Ne5a De5a)) (by kernel_rfl) 10 ?_
   refine AnyU.abs ?_
   intro w21 hW
   have hb : Below wr.heap.size wr w21 := by rw [hW]; exact bDrew _
   replace hs := bStep hs hb
   replace he4a := he4a.mono hb
   replace he5a := he5a.mono hb
   replace ha := rowsJ PC.kept _ _ _ ha hb
   replace hq := rowsJ RC.kept _ _ _ hq hb
   replace B0 := cellK B0 hb
   replace B1 := cellK B1 hb
   replace B2 := cellK B2 hb
   replace B3 := cellK B3 hb
   replace B4 := cellK B4 hb
   replace B5 := cellK B5 hb
   clear hb hW
   have hH := (show w21.cell? ⟨bha, oha + k * 3, none⟩ = some (.bool ge4a) ∧ w21.cell? ⟨bha, oha + k * 3 + 1, none⟩ = some (.slice ae4a ne4a ce4a) ∧ w21.cell? ⟨bha, oha + k * 3 + 2, none⟩ = some (.slice Ae4a Ne4a De4a) ∧ w21.cell? ⟨bhq, ohq + k * 3, none⟩ = some (.bool ge5a) ∧ w21.cell? ⟨bhq, ohq + k * 3 + 1, none⟩ = some (.slice ae5a ne5a ce5a) ∧ w21.cell? ⟨bhq, ohq + k * 3 + 2, none⟩ = some (.slice Ae5a Ne5a De5a) from ⟨B0, B1, B2, B3, B4, B5⟩)
   refine U_tk 0 16 ?_ ?_ hH ?_
   rotate_left
   ·(intro w hSw; (try dsimp only at hSw); go_simp; try with_reducible rfl)
   simp only [LY]
   refine U_tk 1 17 ?_ ?_ hH ?_
   rotate_left
   ·(intro w hSw; (try dsimp only at hSw); go_simp; try with_reducible rfl)
   simp only [LY]
   refine U_tk 2 18 ?_ ?_ hH ?_
   rotate_left
   ·(intro w hSw; (try dsimp only at hSw); go_simp; try with_reducible rfl)
   simp only [LY]
   refine U_tk 3 19 ?_ ?_ hH ?_
   rotate_left
   ·(intro w hSw; (try dsimp only at hSw); go_simp; try with_reducible rfl)
   simp only [LY]
   refine U_tk 4 20 ?_ ?_ hH ?_
   rotate_left
   ·(intro w hSw; (try dsimp only at hSw); go_simp; try with_reducible rfl)
   simp only [LY]
   refine U_tk 5 21 ?_ ?_ hH ?_
   rotate_left
   ·(intro w hSw; (try dsimp only at hSw); go_simp; try with_reducible rfl)
   simp only [LY]
   refine U_tk 6 22 ?_ ?_ hH ?_
   rotate_left
   ·(intro w hSw; (try dsimp only at hSw); go_simp; try with_reducible rfl)
   simp only [LY]
   refine U_tk 7 23 ?_ ?_ hH ?_
   rotate_left
   ·(intro w hSw; (try dsimp only at hSw); go_simp; try with_reducible rfl)
   simp only [LY]
   clear hH
   refine U_one (i := 8) (by kernel_rfl) rfl (fun K hK => ?_)
   go_simp
   (with_reducible refine (l7_is _ _ _ _ he4a he5a (SzQ.fit (HZ.out k (by omega)))).mono ?_)
   rintro e w22 ⟨rfl, hb⟩
   replace hs := bStep hs hb
   replace he4a := he4a.mono hb
   replace he5a := he5a.mono hb
   replace ha := rowsJ PC.kept _ _ _ ha hb
   replace hq := rowsJ RC.kept _ _ _ hq hb
   replace B0 := cellK B0 hb
   replace B1 := cellK B1 hb
   replace B2 := cellK B2 hb
   replace B3 := cellK B3 hb
   replace B4 := cellK B4 hb
   replace B5 := cellK B5 hb
   clear hb
   try go_wp2_with fail
   refine hK.out _ _ ⟨B0, B1, B2, B3, B4, B5⟩ (fun hH => ?_)
   clear hK K
   try simp only [LY]
   refine U_tk 9 25 ?_ ?_ hH ?_
   rotate_left
   ·(intro w hSw; (try dsimp only at hSw); go_simp; try with_reducible rfl)
   simp only [LY]
   clear hH
   refine U_endN (by kernel_rfl) ?_
   clear B0 B1 B2 B3 B4 B5
   go_wp2
   go_roundw
   case rel => exact ⟨k + 1, by omega, by go_num, hs, ha, hq⟩
   all_goals first | (simp [intOf]; done) | (simp [intOf]; omega)
  ·have q2d : ((k : Int) < (L.length : Int)) = False := eq_false (by omega)
   go_wp2
   go_ret
   exact ⟨rfl, hs⟩
theorem l7_are_none {va vb : Value} {L : List Rat} (w : World) (ha : Rows 3 32 PC w va L) (hq : Rows 3 38 RC w vb L) (hl : L.length = 0) (hz : ∀ i, i < L.length → SzQ 30000 (nthQ L i)) : Calls Tryz.prog 12 #[va, vb] w (RetV w (.bool true)) := by
 obtain ⟨aha, kha, rfl, ha1, ha2, -⟩ := ha.toI.slice
 obtain ⟨ahq, khq, rfl, hq1, hq2, -⟩ := hq.toI.slice
 have hl1 : L.length ≤ 0 := by omega
 clear hl
 have hs := Below.refl w.heap.size w
 have HZ := Lib.hid hz
 clear hz
 go_enter Tryz.func12, Tryz.ntmps12
 have q1b : ((L.length : Int) == (L.length : Int)) = true := beq_self_eq_true _
 have q1n : ((L.length : Int) != (L.length : Int)) = false := bne_self_eq_false _
 go_wp2
 go_loopw [13] (fun s13 wq => ∃ k : Nat, k ≤ L.length ∧ s13 = .int .i64 k ∧ Below w.heap.size w wq) (fun s13 _ => L.length - (intOf s13).toNat)
 case atStart => exact ⟨0, Nat.zero_le _, rfl, hs⟩
 case round =>
  clear hs
  obtain ⟨k, k_le, rfl, hs⟩ := hrel
  have q2 : ¬ (k < L.length) := (by omega)
  have q2d : ((k : Int) < (L.length : Int)) = False := eq_false (by omega)
  go_wp2
  go_ret
  exact ⟨rfl, hs⟩
theorem l7_are {va vb : Value} {L : List Rat} (w : World) (ha : Rows 3 32 PC w va L) (hq : Rows 3 38 RC w vb L) (hz : ∀ i, i < L.length → SzQ 30000 (nthQ L i)) : Calls Tryz.prog 12 #[va, vb] w (RetV w (.bool true)) := by
 by_cases h : L.length = 0
 ·exact l7_are_none w ha hq h hz
 ·exact l7_are_some w ha hq (by omega) hz
end Go.Proofs.YtkfekkhhfpkfaaaGreat
