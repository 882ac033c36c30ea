/-
  One event more, element by element, as the reference reckons it. No function of the program is walked here.
-/
import Derived.Test.YtmnipggjjcmjkaaGreatTail0
import Derived.Test.YtmnipggjjcmjkaaGreatVec
set_option linter.unusedSimpArgs false
set_option linter.unusedVariables false
namespace Go.Proofs.YtmnipggjjcmjkaaGreat
open Go.RowKit Dg

/-- What element k has got ahead of round k. -/
def evC (p : Rat) (n k : Nat) : Rat := if 0 < k then binQ p n (k - 1) * p else 0
/-- The list ahead of round k. -/
def evL (p : Rat) (n k : Nat) : List Rat := (List.range (n + 2)).map fun j => if j < k then binQ p (n + 1) j else if j = k then evC p n k else 0
/-- .. in the midst of round k. -/
def evM (p : Rat) (n k : Nat) : List Rat := (List.range (n + 2)).map fun j => if j < k + 1 then binQ p (n + 1) j else 0
theorem evL_len (p : Rat) (n k : Nat) : (evL p n k).length = n + 2 := by simp [evL]
theorem evM_len (p : Rat) (n k : Nat) : (evM p n k).length = n + 2 := by simp [evM]
theorem evL_zero (p : Rat) (n : Nat) : evL p n 0 = List.replicate ((binL p n).length + 1) 0 := by
  refine List.ext_getElem? fun j => ?_
  rw [binL_len]
  unfold evL
  rw [List.getElem?_map, List.getElem?_replicate]
  by_cases h : j < n + 2
  · rw [List.getElem?_range h, if_pos (by omega)]
    simp [evC]
  · rw [List.getElem?_eq_none (by simp; omega), if_neg (by omega)]; rfl
theorem evL_at {p : Rat} {n k : Nat} (h : k ≤ n + 1) : nthQ (evL p n k) k = evC p n k := by
  unfold nthQ evL
  rw [List.getD_eq_getElem?_getD, List.getElem?_map, List.getElem?_range (by omega)]
  simp
theorem evM_at {p : Rat} {n k : Nat} (h : k ≤ n) : nthQ (evM p n k) (k + 1) = 0 := by
  unfold nthQ evM
  rw [List.getD_eq_getElem?_getD, List.getElem?_map, List.getElem?_range (by omega)]
  simp
theorem evC_next {p : Rat} {n k : Nat} (h : k ≤ n) : evC p n k + nthQ (binL p n) k * (1 - p) = binQ p (n + 1) k := by
  rw [binL_at h]
  unfold evC
  split
  · rename_i h0
    rw [nx_mid h0 h, binL_at h, binL_at (by omega)]; grind
  · obtain rfl : k = 0 := by omega
    rw [nx_first, binL_at (Nat.zero_le _)]; grind
theorem evL_set {p : Rat} {n k : Nat} (h : k ≤ n) : (evL p n k).set k (evC p n k + nthQ (binL p n) k * (1 - p)) = evM p n k := by
  rw [evC_next h]
  refine List.ext_getElem? fun j => ?_
  rw [List.getElem?_set, evL_len]
  unfold evL evM
  rw [List.getElem?_map, List.getElem?_map]
  by_cases hj : j < n + 2
  · rw [List.getElem?_range hj]
    by_cases e : k = j
    · subst e; simp; omega
    · rw [if_neg e]
      simp only [Option.map_some]
      by_cases e2 : j < k
      · rw [if_pos e2, if_pos (by omega)]
      · rw [if_neg e2, if_neg (show ¬ j = k by omega), if_neg (by omega)]
  · rw [List.getElem?_eq_none (by simp; omega), if_neg (by omega)]; rfl
theorem evM_set {p : Rat} {n k : Nat} (h : k ≤ n) : (evM p n k).set (k + 1) (0 + nthQ (binL p n) k * p) = evL p n (k + 1) := by
  refine List.ext_getElem? fun j => ?_
  rw [List.getElem?_set, evM_len]
  unfold evL evM
  rw [List.getElem?_map, List.getElem?_map]
  by_cases hj : j < n + 2
  · rw [List.getElem?_range hj]
    by_cases e : k + 1 = j
    · subst e
      simp only [Option.map_some]
      rw [if_pos trivial, if_pos (by omega), if_neg (by omega), if_pos trivial, binL_at h]
      unfold evC
      rw [if_pos (by omega), Nat.add_sub_cancel]
      congr 1; grind
    · rw [if_neg e]
      simp only [Option.map_some]
      by_cases e2 : j < k + 1
      · rw [if_pos e2, if_pos e2]
      · rw [if_neg e2, if_neg e2, if_neg (show ¬ j = k + 1 by omega)]
  · rw [List.getElem?_eq_none (by simp; omega), if_neg (by omega)]; rfl
theorem evL_all (p : Rat) (n : Nat) : evL p n (n + 1) = binL p (n + 1) := by
  unfold evL binL
  refine List.map_congr_left fun j hj => ?_
  have hj := List.mem_range.1 hj
  by_cases e : j < n + 1
  · rw [if_pos e]
  · obtain rfl : j = n + 1 := by omega
    rw [if_neg (by omega), if_pos rfl]
    unfold evC
    rw [if_pos (by omega), nx_last (by omega) (by omega), binL_at (by omega)]
    simp only [Nat.add_sub_cancel]; grind
theorem evC_sz {p : Rat} (h0 : 0 ≤ p) (h1 : p ≤ 1) (sp : SzQ 1 p) {n : Nat} (hn : n ≤ 64) (k : Nat) : SzQ 200 (evC p n k) := by
  unfold evC
  split
  · exact (SzQ.mul (bin_sz h0 h1 sp n (k - 1)) sp).mono (by omega)
  · exact szQ_zero.mono (by omega)
end Go.Proofs.YtmnipggjjcmjkaaGreat
