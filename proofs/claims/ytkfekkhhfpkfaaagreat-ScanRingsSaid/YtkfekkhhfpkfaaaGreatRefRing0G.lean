/-
  The lists of the reference's Ring: plain laws.
-/
import Derived.Test.YtkfekkhhfpkfaaaGreatRing0G
set_option linter.unusedSimpArgs false
set_option linter.unusedVariables false
namespace Go.Proofs.YtkfekkhhfpkfaaaGreat
def mapL (f : Nat → Rat) (k : Nat) : List Rat := (List.range k).map f
theorem mapL_len (f : Nat → Rat) (k : Nat) : (mapL f k).length = k := by unfold mapL; simp
theorem mapL_get (f : Nat → Rat) (n i : Nat) : (mapL f n)[i]? = if i < n then some (f i) else none := by
  unfold mapL
  rw [List.getElem?_map]
  by_cases h : i < n
  · rw [if_pos h, List.getElem?_range h]; rfl
  · rw [if_neg h, List.getElem?_eq_none (by rw [List.length_range]; omega)]; rfl
theorem mapL_nth {f : Nat → Rat} {n i : Nat} (h : i < n) : nthQ (mapL f n) i = f i := by
  have e := mapL_get f n i
  rw [if_pos h] at e
  show List.getD _ i 0 = _
  rw [List.getD_eq_getElem?_getD, e]; rfl
theorem mapL_succ {f : Nat → Rat} {k : Nat} {q : Rat} (h : q = f k) : mapL f k ++ [q] = mapL f (k + 1) := by
  unfold mapL; rw [List.range_succ, List.map_append, h]; rfl
theorem mapL_set {f g : Nat → Rat} {n i : Nat} {q : Rat} (hi : i < n) (hq : q = g i) (h : ∀ j, j < n → j ≠ i → f j = g j) : (mapL f n).set i q = mapL g n := by
  refine List.ext_getElem? fun j => ?_
  rw [List.getElem?_set, mapL_get, mapL_get, mapL_len]
  by_cases e : i = j
  · subst e; rw [if_pos rfl, if_pos hi, if_pos hi, hq]
  · rw [if_neg e]
    by_cases hj : j < n
    · rw [if_pos hj, if_pos hj, h j hj (fun x => e x.symm)]
    · rw [if_neg hj, if_neg hj]
theorem mapL_congr {f g : Nat → Rat} {n : Nat} (h : ∀ j, j < n → f j = g j) : mapL f n = mapL g n := List.map_congr_left fun i hi => h i (List.mem_range.1 hi)
abbrev zrL (k : Nat) : List Rat := mapL (fun _ => 0) k
def mxF (f g : Nat → Rat) (i : Nat) : Nat → Rat := fun j => if j < i then g j else f j
theorem mxF_zero (f g : Nat → Rat) (n : Nat) : mapL (mxF f g 0) n = mapL f n := mapL_congr fun j _ => by unfold mxF; rw [if_neg (Nat.not_lt_zero j)]
theorem mxF_all (f g : Nat → Rat) (n : Nat) : mapL (mxF f g n) n = mapL g n := mapL_congr fun j h => by unfold mxF; rw [if_pos h]
theorem mxF_set {f g : Nat → Rat} {n i : Nat} {q : Rat} (hi : i < n) (hq : q = g i) : (mapL (mxF f g i) n).set i q = mapL (mxF f g (i + 1)) n :=
  mapL_set hi (by unfold mxF; rw [if_pos (Nat.lt_succ_self i), hq]) fun j hj hne => by
    unfold mxF
    by_cases h : j < i
    · rw [if_pos h, if_pos (by omega)]
    · rw [if_neg h, if_neg (by omega)]
theorem mxF_set2 {f g : Nat → Rat} {n i : Nat} {q : Rat} (hi : i < n) (hq : q = g i) : ((mapL (mxF f g i) n).set i 0).set i q = mapL (mxF f g (i + 1)) n := by
  rw [List.set_set]; exact mxF_set hi hq
theorem lf_zero {L : List Rat} {n : Nat} (hn : 0 < n) : (zrL n).set 0 1 = mapL (rgW L 0).1 n := mapL_set hn rfl fun j _ hj => by show (0 : Rat) = if j = 0 then 1 else 0; rw [if_neg hj]
theorem rgBks_n (L : List Rat) (k : Nat) : (rgBks L k).length = k := by simp [rgBks]
theorem rgThs_n (L : List Rat) (k : Nat) : (rgThs L k).length = k := by simp [rgThs]
theorem rgW1_zero (L : List Rat) (t : Nat) : (0 : Rat) = (rgW L (t + 1)).1 0 := by show (0 : Rat) = if (1 : Nat) ≤ 0 ∧ 0 + 1 < L.length then trQ L (rgW L t) (0 - 1) else 0; rw [if_neg (by omega)]
theorem rgW1_pos {L : List Rat} {t i : Nat} (h : 0 < i) (h1 : i + 1 < L.length) : trQ L (rgW L t) (i - 1) = (rgW L (t + 1)).1 i := by show _ = if 1 ≤ i ∧ i + 1 < L.length then _ else 0; rw [if_pos ⟨h, h1⟩]
theorem rgW2_pos {L : List Rat} {t i : Nat} (h : i + 2 < L.length) : tlQ L (rgW L t) (i + 1) = (rgW L (t + 1)).2 i := by show _ = if i + 2 < L.length then _ else 0; rw [if_pos h]
theorem rgW2_last {L : List Rat} {t i : Nat} (h : ¬ i + 2 < L.length) : (0 : Rat) = (rgW L (t + 1)).2 i := by show (0 : Rat) = if i + 2 < L.length then tlQ L (rgW L t) (i + 1) else 0; rw [if_neg h]
end Go.Proofs.YtkfekkhhfpkfaaaGreat
