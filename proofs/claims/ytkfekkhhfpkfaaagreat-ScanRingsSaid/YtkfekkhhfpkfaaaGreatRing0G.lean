/-
  Ring (the waves between layers), as plain functions on fractions; how great they get; what is between two steps.
-/
import Derived.Test.YtkfekkhhfpkfaaaGreatPliesG
set_option linter.unusedSimpArgs false
set_option linter.unusedVariables false
namespace Go.Proofs.YtkfekkhhfpkfaaaGreat
open Go.RowKit Dg
def rgR (L : List Rat) (i : Nat) : Rat := (nthQ L (i + 1) - nthQ L i) / (nthQ L (i + 1) + nthQ L i)
abbrev Wv := (Nat → Rat) × (Nat → Rat)
def tlQ (L : List Rat) (s : Wv) (i : Nat) : Rat := rgR L i * s.1 i + (1 - rgR L i) * s.2 i
def trQ (L : List Rat) (s : Wv) (i : Nat) : Rat := (1 + rgR L i) * s.1 i - rgR L i * s.2 i
def rgW (L : List Rat) : Nat → Wv
  | 0 => (fun i => if i = 0 then 1 else 0, fun _ => 0)
  | t + 1 => (fun i => if 1 ≤ i ∧ i + 1 < L.length then trQ L (rgW L t) (i - 1) else 0, fun i => if i + 2 < L.length then tlQ L (rgW L t) (i + 1) else 0)
def rgBks (L : List Rat) (k : Nat) : List Rat := (List.range k).map fun t => tlQ L (rgW L t) 0
def rgThs (L : List Rat) (k : Nat) : List Rat := (List.range k).map fun t => trQ L (rgW L t) (L.length - 2)
theorem rgBks_succ (L : List Rat) (k : Nat) : rgBks L (k + 1) = rgBks L k ++ [tlQ L (rgW L k) 0] := by unfold rgBks; rw [List.range_succ, List.map_append]; rfl
theorem rgThs_succ (L : List Rat) (k : Nat) : rgThs L (k + 1) = rgThs L k ++ [trQ L (rgW L k) (L.length - 2)] := by unfold rgThs; rw [List.range_succ, List.map_append]; rfl
def rgIn (L : List Rat) (s : Wv) : Nat → Rat
  | 0 => 0
  | i + 1 => rgIn L s i + s.1 i * s.1 i / nthQ L i + s.2 i * s.2 i / nthQ L (i + 1)
def rgIns (L : List Rat) (k : Nat) : Rat := rgIn L (rgW L k) (L.length - 1) * nthQ L 0
def rgK : Nat → Nat
  | 0 => 1
  | t + 1 => 2 * rgK t + 16
theorem rgK_le {t : Nat} (h : t ≤ 6) : rgK t ≤ 1072 := by
  match t, h with
  | 0, _ | 1, _ | 2, _ | 3, _ | 4, _ | 5, _ | 6, _ => decide
section
variable {L : List Rat} (hz : ∀ i, i < L.length → SzQ 1 (nthQ L i)) (hp : ∀ i, i < L.length → 0 < nthQ L i)
include hz hp
theorem rgR_sz {i : Nat} (hi : i + 1 < L.length) : SzQ 6 (rgR L i) ∧ nthQ L (i + 1) + nthQ L i ≠ 0 := by
  have h1 := hp i (by omega)
  have h2 := hp (i + 1) hi
  have hne : nthQ L (i + 1) + nthQ L i ≠ 0 := by grind
  exact ⟨((hz _ hi).sub (hz i (by omega))).div ((hz _ hi).add (hz i (by omega))) hne, hne⟩
theorem tl_sz {s : Wv} {K i : Nat} (h1 : SzQ K (s.1 i)) (h2 : SzQ K (s.2 i)) (hi : i + 1 < L.length) : SzQ (2 * K + 16) (tlQ L s i) ∧ SzQ (2 * K + 16) (trQ L s i) := by
  have hr := (rgR_sz hz hp hi).1
  exact ⟨((hr.mul h1).add ((szQ_one.sub hr).mul h2)).mono (by omega), (((szQ_one.add hr).mul h1).sub (hr.mul h2)).mono (by omega)⟩
theorem rgW_sz' : ∀ t i, SzQ (rgK t) ((rgW L t).1 i) ∧ SzQ (rgK t) ((rgW L t).2 i)
  | 0, i => by
    refine ⟨?_, szQ_zero⟩
    show SzQ 1 (if i = 0 then 1 else 0)
    split
    · exact szQ_one
    · exact szQ_zero
  | t + 1, i => by
    have hz0 : SzQ (rgK (t + 1)) (0 : Rat) := szQ_zero.mono (by show 1 ≤ 2 * rgK t + 16; omega)
    constructor
    · show SzQ _ (if 1 ≤ i ∧ i + 1 < L.length then trQ L (rgW L t) (i - 1) else 0)
      split
      · rename_i h
        exact (tl_sz hz hp (rgW_sz' t _).1 (rgW_sz' t _).2 (by omega)).2
      · exact hz0
    · show SzQ _ (if i + 2 < L.length then tlQ L (rgW L t) (i + 1) else 0)
      split
      · rename_i h
        exact (tl_sz hz hp (rgW_sz' t _).1 (rgW_sz' t _).2 (by omega)).1
      · exact hz0
theorem rgW_sz {t : Nat} (ht : t ≤ 6) (i : Nat) : SzQ 1072 ((rgW L t).1 i) ∧ SzQ 1072 ((rgW L t).2 i) :=
  ⟨(rgW_sz' hz hp t i).1.mono (rgK_le ht), (rgW_sz' hz hp t i).2.mono (rgK_le ht)⟩
theorem rgIn_sz {t : Nat} (ht : t ≤ 6) : ∀ i, i < L.length → SzQ (i * 4400 + 1) (rgIn L (rgW L t) i)
  | 0, _ => szQ_zero.mono (by omega)
  | i + 1, hi => by
    have ih := rgIn_sz ht i (by omega)
    have h := rgW_sz hz hp ht i
    have n1 : nthQ L i ≠ 0 := by have := hp i (by omega); grind
    have n2 : nthQ L (i + 1) ≠ 0 := by have := hp (i + 1) hi; grind
    exact ((ih.add ((h.1.mul h.1).div (hz i (by omega)) n1)).add ((h.2.mul h.2).div (hz (i + 1) hi) n2)).mono (by omega)
theorem rgBk_sz {t : Nat} (ht : t ≤ 6) {i : Nat} (hi : i + 1 < L.length) : SzQ 2200 (tlQ L (rgW L t) i) ∧ SzQ 2200 (trQ L (rgW L t) i) := by
  have h := rgW_sz hz hp ht i
  have h2 := tl_sz hz hp h.1 h.2 hi
  exact ⟨h2.1.mono (by omega), h2.2.mono (by omega)⟩
end
theorem tl_prog {p q a b : Rat} (h : q + p ≠ 0) : (q - p) / (q + p) * a + (p + p) / (p + q) * b = (q - p) / (q + p) * a + (1 - (q - p) / (q + p)) * b := by
  have h2 : p + q ≠ 0 := by grind
  grind
theorem tr_prog {p q a b : Rat} (h : q + p ≠ 0) : (q + q) / (p + q) * a - (q - p) / (q + p) * b = (1 + (q - p) / (q + p)) * a - (q - p) / (q + p) * b := by
  have h2 : p + q ≠ 0 := by grind
  grind
def w24 (f g : Nat → Rat) : List Rat := (List.range 24).map fun k => if k < 12 then f k else g (k - 12)
theorem w24_length (f g : Nat → Rat) : (w24 f g).length = 24 := by simp [w24]
theorem w24_nth (f g : Nat → Rat) {k : Nat} (h : k < 24) : nthQ (w24 f g) k = if k < 12 then f k else g (k - 12) := by
  unfold nthQ w24
  rw [List.getD_eq_getElem?_getD, List.getElem?_map, List.getElem?_range h]; rfl
theorem w24_set (f g : Nat → Rat) {k : Nat} (h : k < 24) (x : Rat) : (w24 f g).set k x = w24 (fun j => if j = k then x else f j) (fun j => if j + 12 = k then x else g j) := by
  refine List.ext_getElem? fun j => ?_
  rw [List.getElem?_set]
  unfold w24
  simp only [List.getElem?_map, List.length_map, List.length_range]
  by_cases hj : j < 24
  · rw [List.getElem?_range hj]
    by_cases e : k = j
    · subst e
      rw [if_pos rfl, if_pos h]
      simp only [Option.map_some]
      by_cases h12 : k < 12
      · rw [if_pos h12]; simp
      · rw [if_neg h12, if_pos (by omega)]
    · rw [if_neg e]
      simp only [Option.map_some]
      by_cases h12 : j < 12
      · rw [if_pos h12, if_pos h12, if_neg (by omega)]
      · rw [if_neg h12, if_neg h12, if_neg (by omega)]
  · rw [if_neg (by omega), List.getElem?_eq_none (by simp; omega)]; rfl
theorem w24_congr {f g f' g' : Nat → Rat} (h1 : ∀ i, i < 12 → f i = f' i) (h2 : ∀ i, i < 12 → g i = g' i) : w24 f g = w24 f' g' := by
  unfold w24
  refine List.map_congr_left fun k hk => ?_
  have := List.mem_range.1 hk
  split
  · exact h1 k (by assumption)
  · exact h2 (k - 12) (by omega)
def nowQ (L : List Rat) (t : Nat) : List Rat := w24 (rgW L t).1 (rgW L t).2
def nxF (L : List Rat) (t i : Nat) : Nat → Rat := fun k => if 1 ≤ k ∧ k ≤ i then (rgW L (t + 1)).1 k else 0
def nxG (L : List Rat) (t i : Nat) : Nat → Rat := fun k => if k + 1 < i then (rgW L (t + 1)).2 k else 0
def nxQ (L : List Rat) (t i : Nat) : List Rat := w24 (nxF L t i) (nxG L t i)
theorem nxQ_zero (L : List Rat) (t : Nat) : nxQ L t 0 = List.replicate 24 0 := by
  refine List.ext_getElem? fun j => ?_
  unfold nxQ w24
  rw [List.getElem?_map, List.getElem?_replicate]
  by_cases hj : j < 24
  · rw [List.getElem?_range hj, if_pos hj]
    simp only [Option.map_some, nxF, nxG]
    split
    · rw [if_neg (by omega)]
    · rw [if_neg (by omega)]
  · rw [if_neg hj, List.getElem?_eq_none (by simp; omega)]; rfl
theorem nxQ_done {L : List Rat} (t : Nat) (h : 2 ≤ L.length) : nxQ L t (L.length - 1) = nowQ L (t + 1) := by
  refine w24_congr (fun i hi => ?_) (fun i hi => ?_)
  · unfold nxF
    split
    · rfl
    · show 0 = if 1 ≤ i ∧ i + 1 < L.length then _ else _
      rw [if_neg (by omega)]
  · unfold nxG
    split
    · rfl
    · show 0 = if i + 2 < L.length then _ else _
      rw [if_neg (by omega)]
theorem now_zero (L : List Rat) : (List.replicate 24 (0 : Rat)).set 0 1 = nowQ L 0 := rfl
theorem nxQ_mid {L : List Rat} {t i : Nat} (h1 : 1 ≤ i) (h2 : i + 2 < L.length) (h5 : L.length ≤ 12) :
    ((nxQ L t i).set (12 + (i - 1)) (tlQ L (rgW L t) i)).set (i + 1) (trQ L (rgW L t) i) = nxQ L t (i + 1) := by
  unfold nxQ
  rw [w24_set _ _ (by omega), w24_set _ _ (by omega)]
  refine w24_congr (fun k hk => ?_) (fun k hk => ?_)
  · show (if k = i + 1 then _ else (if k = 12 + (i - 1) then _ else _)) = _
    by_cases e : k = i + 1
    · subst e
      rw [if_pos rfl]
      show _ = if 1 ≤ i + 1 ∧ i + 1 ≤ i + 1 then (if 1 ≤ i + 1 ∧ i + 1 + 1 < L.length then trQ L (rgW L t) (i + 1 - 1) else 0) else 0
      rw [if_pos (by omega), if_pos (by omega), Nat.add_sub_cancel]
    · rw [if_neg e, if_neg (by omega)]
      unfold nxF
      by_cases e2 : 1 ≤ k ∧ k ≤ i
      · rw [if_pos e2, if_pos (by omega)]
      · rw [if_neg e2, if_neg (by omega)]
  · show (if k + 12 = i + 1 then _ else (if k + 12 = 12 + (i - 1) then _ else _)) = _
    rw [if_neg (by omega)]
    by_cases e : k + 12 = 12 + (i - 1)
    · rw [if_pos e]
      have : k = i - 1 := by omega
      subst this
      show _ = if i - 1 + 1 < i + 1 then (if i - 1 + 2 < L.length then tlQ L (rgW L t) (i - 1 + 1) else 0) else 0
      rw [if_pos (by omega), if_pos (by omega), Nat.sub_add_cancel h1]
    · rw [if_neg e]
      unfold nxG
      by_cases e2 : k + 1 < i
      · rw [if_pos e2, if_pos (by omega)]
      · rw [if_neg e2, if_neg (by omega)]
theorem nxQ_first {L : List Rat} {t : Nat} (h2 : 2 < L.length) (h5 : L.length ≤ 12) : (nxQ L t 0).set 1 (trQ L (rgW L t) 0) = nxQ L t 1 := by
  unfold nxQ
  rw [w24_set _ _ (by omega)]
  refine w24_congr (fun k hk => ?_) (fun k hk => ?_)
  · show (if k = 1 then _ else _) = _
    by_cases e : k = 1
    · subst e
      rw [if_pos rfl]
      show _ = if 1 ≤ 1 ∧ 1 ≤ 1 then (if 1 ≤ 1 ∧ 1 + 1 < L.length then trQ L (rgW L t) (1 - 1) else 0) else 0
      rw [if_pos (by omega), if_pos (by omega)]
    · rw [if_neg e]
      unfold nxF
      rw [if_neg (by omega), if_neg (by omega)]
  · show (if k + 12 = 1 then _ else _) = _
    rw [if_neg (by omega)]
    unfold nxG
    rw [if_neg (by omega), if_neg (by omega)]
theorem nxQ_last {L : List Rat} {t i : Nat} (h1 : 1 ≤ i) (h2 : i + 2 = L.length) (h5 : L.length ≤ 12) : (nxQ L t i).set (12 + (i - 1)) (tlQ L (rgW L t) i) = nxQ L t (i + 1) := by
  unfold nxQ
  rw [w24_set _ _ (by omega)]
  refine w24_congr (fun k hk => ?_) (fun k hk => ?_)
  · show (if k = 12 + (i - 1) then _ else _) = _
    rw [if_neg (by omega)]
    unfold nxF
    by_cases e : k = i + 1
    · subst e
      rw [if_neg (by omega), if_pos (by omega)]
      show 0 = if 1 ≤ i + 1 ∧ i + 1 + 1 < L.length then trQ L (rgW L t) (i + 1 - 1) else 0
      rw [if_neg (by omega)]
    · by_cases e2 : 1 ≤ k ∧ k ≤ i
      · rw [if_pos e2, if_pos (by omega)]
      · rw [if_neg e2, if_neg (by omega)]
  · show (if k + 12 = 12 + (i - 1) then _ else _) = _
    by_cases e : k + 12 = 12 + (i - 1)
    · rw [if_pos e]
      have : k = i - 1 := by omega
      subst this
      show _ = if i - 1 + 1 < i + 1 then (if i - 1 + 2 < L.length then tlQ L (rgW L t) (i - 1 + 1) else 0) else 0
      rw [if_pos (by omega), if_pos (by omega), Nat.sub_add_cancel h1]
    · rw [if_neg e]
      unfold nxG
      by_cases e2 : k + 1 < i
      · rw [if_pos e2, if_pos (by omega)]
      · rw [if_neg e2, if_neg (by omega)]
theorem nxQ_only {L : List Rat} {t : Nat} (h2 : L.length = 2) : nxQ L t 0 = nxQ L t 1 := by
  refine w24_congr (fun k hk => ?_) (fun k hk => ?_)
  · unfold nxF
    by_cases e : k = 1
    · subst e
      rw [if_neg (by omega), if_pos (by omega)]
      show 0 = if 1 ≤ 1 ∧ 1 + 1 < L.length then _ else _
      rw [if_neg (by omega)]
    · rw [if_neg (by omega), if_neg (by omega)]
  · unfold nxG
    rw [if_neg (by omega), if_neg (by omega)]
end Go.Proofs.YtkfekkhhfpkfaaaGreat
