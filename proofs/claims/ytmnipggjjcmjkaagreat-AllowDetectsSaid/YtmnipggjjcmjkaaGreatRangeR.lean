/-
  The reference's ranges: Only, least, most, Hull, SMul, Has, Before.
-/
import Derived.Test.YtmnipggjjcmjkaaGreatPkGr
import Derived.Test.YtmnipggjjcmjkaaGreatPkHeld
set_option linter.unusedSimpArgs false
set_option linter.unusedVariables false
namespace Go.Proofs.YtmnipggjjcmjkaaGreat
open Go.RowKit Dg
attribute [local go_sem ↓] Go.wp_at_zero Go.wp_at_succ

/-- The lesser one, the greater one of two numbers. -/
def mnQ (x y : Rat) : Rat := if x ≤ y then x else y
def mxQ (x y : Rat) : Rat := if y ≤ x then x else y
theorem mnQ_sz {K : Nat} {x y : Rat} (hx : SzQ K x) (hy : SzQ K y) : SzQ K (mnQ x y) := by unfold mnQ; split <;> assumption
theorem mxQ_sz {K : Nat} {x y : Rat} (hx : SzQ K x) (hy : SzQ K y) : SzQ K (mxQ x y) := by unfold mxQ; split <;> assumption

set_option maxRecDepth 100000 in
set_option maxHeartbeats 4000000 in
theorem r_Only (vx : Value) (x : Rat) (w : World) (hx : RV w vx x) :
    Calls Tryz.prog 94 #[vx] w (Ret1 (fun w v => RV2 w v (x) (x)) w) := by
  obtain ⟨shx, ahx, nhx, chx, Ahx, Nhx, Chx, rfl⟩ := hx.shape
  have hs := Below.refl w.heap.size w
  go_enter Tryz.func94, Tryz.ntmps94
  go_wp2
  refine bodyPost.abs ?_
  intro w1 hW
  have hG : Gr [] w w1 := by rw [hW]; exact (Gr.refl _ _).alloc.alloc
  have hbw : Below w.heap.size w w1 := hG.below0 hs.size
  have hk : KeepD w w1 := hG.keep True.intro
  have sz_w1 : w.heap.size ≤ w.heap.size := hs.size
  have Blx : Bx w1 (w.heap.size) 36 #[.bool shx, .slice ahx nhx chx, .slice Ahx Nhx Chx] := by rw [hW]; exact ((Bx.new0 _ _ _).alloc _)
  have Blk : Bx w1 (w.heap.size + 1) 63 #[.bool shx, .slice ahx nhx chx, .slice Ahx Nhx Chx, .bool shx, .slice ahx nhx chx, .slice Ahx Nhx Chx] := by rw [hW]; exact (Bx.new0 _ _ _)
  replace hs := hs.trans hbw
  replace hx := hx.keep hk
  clear hW hG hk hbw
  have hz_w1 : w.heap.size + 1 < w1.heap.size := Blk.lt
  have ck_0 : w1.cell? ⟨w.heap.size + 1, 0, none⟩ = some (.bool shx) := Blk.at 0 rfl
  have ck_1 : w1.cell? ⟨w.heap.size + 1, 1, none⟩ = some (.slice ahx nhx chx) := Blk.at 1 rfl
  have ck_2 : w1.cell? ⟨w.heap.size + 1, 2, none⟩ = some (.slice Ahx Nhx Chx) := Blk.at 2 rfl
  have ck_3 : w1.cell? ⟨w.heap.size + 1, 3, none⟩ = some (.bool shx) := Blk.at 3 rfl
  have ck_4 : w1.cell? ⟨w.heap.size + 1, 4, none⟩ = some (.slice ahx nhx chx) := Blk.at 4 rfl
  have ck_5 : w1.cell? ⟨w.heap.size + 1, 5, none⟩ = some (.slice Ahx Nhx Chx) := Blk.at 5 rfl
  exact bodyPost_ret (v := .agg #[.bool shx, .slice ahx nhx chx, .slice Ahx Nhx Chx, .bool shx, .slice ahx nhx chx, .slice Ahx Nhx Chx]) (by simp [results, Tryz.results94, go_sem, ck_0, ck_1, ck_2, ck_3, ck_4, ck_5]) rfl ⟨_, rfl, (RV2.mk hx hx), hs⟩




end Go.Proofs.YtmnipggjjcmjkaaGreat
