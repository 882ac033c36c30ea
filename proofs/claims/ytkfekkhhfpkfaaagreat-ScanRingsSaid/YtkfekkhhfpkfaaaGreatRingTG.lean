/-
  Law 07: are all numbers tiny? The sum of squares.
-/
import Derived.Test.YtkfekkhhfpkfaaaGreatPkLawG
import Derived.Test.YtkfekkhhfpkfaaaGreatRing1G
import Derived.Test.YtkfekkhhfpkfaaaGreatPkOwnG
import Derived.Test.YtkfekkhhfpkfaaaGreatPkHeld3G
set_option linter.unusedSimpArgs false
set_option linter.unusedVariables false
set_option maxRecDepth 100000
set_option maxHeartbeats 4000000
namespace Go.Proofs.YtkfekkhhfpkfaaaGreat
open Go.RowKit Dg
attribute [local go_sem ↓] Go.wp_at_zero Go.wp_at_succ
def tinyF (x : Int × Int) : Bool := !(decide (256 < x.1) || (decide (x.1 < -256) || decide (256 < x.2)))
theorem l7_tiny (v : Value) (l : List (Int × Int)) (w : World) (hl : RowsI 2 FC w v l) : Calls Tryz.prog 7 #[v] w (RetV w (.bool (l.all tinyF))) := by
 obtain ⟨ao, cap, rfl, hc1, hc2, hc3⟩ := hl.slice
 have hs := Below.refl w.heap.size w
 have HL := Lib.hid hl
 clear hl
 go_enter Tryz.func7, Tryz.ntmps7
 go_wp2
 go_loopw [7] (fun iv wr => ∃ k : Nat, k ≤ l.length ∧ iv = .int .i64 k ∧ (l.take k).all tinyF = true ∧ Below w.heap.size w wr) (fun iv _ => l.length - (intOf iv).toNat)
 case atStart => exact ⟨0, Nat.zero_le _, rfl, rfl, hs⟩
 case round =>
  obtain ⟨k, hk, rfl, hp, hs⟩ := hrel
  have HP := Lib.hid hp
  clear hp
  by_cases hlt : k < l.length
  ·obtain ⟨⟨n, d⟩, hx⟩ : ∃ x, l[k]? = some x := ⟨_, List.getElem?_eq_getElem hlt⟩
   obtain ⟨b, o, c, cs, hv, hlen, hat, rfl⟩ := (HL.out.mono FC.kept hs).get hx
   obtain ⟨rfl, rfl⟩ := sliceE hv
   have e0 := hat 0 _ rfl
   have e1 := hat 1 _ rfl
   clear hat
   simp only [Nat.add_zero] at e0
   have HT := Lib.hid (allF_take tinyF l k (n, d) hx HP.out)
   clear hx hv hlen
   dsimp only at e0 e1
   go_upto_region 4 with fail
   clear e0 e1
   refine Code.abs ?_
   intro w1 hW
   have hsz := hs.size
   have hbw : Below w.heap.size wr w1 := by rw [hW]; exact (Below.alloc (Below.refl w.heap.size wr) (by first | exact hs.size | (have := hs.size; simp; done) | (have := hs.size; simp; omega)) _)
   have hs1 : Below w.heap.size w w1 := hs.trans hbw
   have hk : KeepD wr w1 := by rw [hW]; exact ((KeepD.refl _).alloc _)
   have Bl1x : Bx w1 (wr.heap.size) 67 #[.int .i64 n, .int .i64 d] := by rw [hW]; exact (Bx.new' _ _ _ _ (by first | rfl | (simp; done)))
   replace hs := hs1
   clear hs1
   have Blx := Bl1x
   clear Bl1x
   clear hW hk hsz hbw
   have hz_w1 := Blx.lt
   have B0 := Blx.a0
   have B1 := Blx.a1
   by_cases q1 : 256 < n
   ·go_wp2
    go_ret
    have HF := HT.out
    rw [show tinyF (n, d) = false by unfold tinyF; simp only; simp [q1]] at HF
    have := allF_false _ l (k + 1) HF
    exact ⟨by rw [this]; rfl, hs⟩
   ·by_cases q2 : n < -256
    ·go_wp2
     go_ret
     have HF := HT.out
     rw [show tinyF (n, d) = false by unfold tinyF; simp only; simp [q2]] at HF
     have := allF_false _ l (k + 1) HF
     exact ⟨by rw [this]; rfl, hs⟩
    ·by_cases q3 : 256 < d
     ·go_wp2
      go_ret
      have HF := HT.out
      rw [show tinyF (n, d) = false by unfold tinyF; simp only; simp [q3]] at HF
      have := allF_false _ l (k + 1) HF
      exact ⟨by rw [this]; rfl, hs⟩
     ·have HF := Lib.hid (show (l.take (k + 1)).all tinyF = true by rw [HT.out]; unfold tinyF; simp [q1, q2, q3])
      go_wp2
      go_roundw
      case rel => exact ⟨k + 1, by omega, by go_num, HF.out, hs⟩
      all_goals first | (simp [intOf]; done) | (simp [intOf]; omega)
  ·go_wp2
   go_ret
   have hp := HP.out
   rw [List.take_of_length_le (by omega)] at hp
   exact ⟨by rw [hp]; rfl, hs⟩
end Go.Proofs.YtkfekkhhfpkfaaaGreat
