/-
  Ring's energy: what comes back, goes through and is inside are together the pulse; nothing comes back at odd steps; the first two echoes.
-/
import Derived.Test.YtkfekkhhfpkfaaaRing0
set_option linter.unusedSimpArgs false
set_option linter.unusedVariables false
namespace Go.Proofs.Ytkfekkhhfpkfaaa
open Go.RowKit Dg

/-- The sum of the squares of the first i numbers. -/
def sqQ (A : List Rat) : Nat → Rat
  | 0 => 0
  | i + 1 => sqQ A i + nthQ A i * nthQ A i
theorem sqQ_congr {A B : List Rat} : ∀ {k : Nat}, (∀ i, i < k → nthQ A i = nthQ B i) → sqQ A k = sqQ B k
  | 0, _ => rfl
  | k + 1, h => by unfold sqQ; rw [sqQ_congr (fun i hi => h i (by omega)), h k (by omega)]
theorem rgBks_length (L : List Rat) (k : Nat) : (rgBks L k).length = k := by simp [rgBks]
theorem rgThs_length (L : List Rat) (k : Nat) : (rgThs L k).length = k := by simp [rgThs]
theorem rgBks_nth (L : List Rat) {k i : Nat} (h : i < k) : nthQ (rgBks L k) i = tlQ L (rgW L i) 0 := by
  unfold nthQ rgBks
  rw [List.getD_eq_getElem?_getD, List.getElem?_map, List.getElem?_range h]; rfl
theorem rgThs_nth (L : List Rat) {k i : Nat} (h : i < k) : nthQ (rgThs L k) i = trQ L (rgW L i) (L.length - 2) := by
  unfold nthQ rgThs
  rw [List.getD_eq_getElem?_getD, List.getElem?_map, List.getElem?_range h]; rfl
theorem unitary {p q a b : Rat} (hp : 0 < p) (hq : 0 < q) :
    ((q - p) / (q + p) * a + (1 - (q - p) / (q + p)) * b) * ((q - p) / (q + p) * a + (1 - (q - p) / (q + p)) * b) / p + ((1 + (q - p) / (q + p)) * a - (q - p) / (q + p) * b) * ((1 + (q - p) / (q + p)) * a - (q - p) / (q + p) * b) / q = a * a / p + b * b / q := by
  have h1 : p ≠ 0 := by grind
  have h2 : q ≠ 0 := by grind
  have h3 : q + p ≠ 0 := by grind
  grind
section
variable {L : List Rat} (hp : ∀ i, i < L.length → 0 < nthQ L i)
include hp
theorem rg_unit (s : Wv) {i : Nat} (hi : i + 1 < L.length) : tlQ L s i * tlQ L s i / nthQ L i + trQ L s i * trQ L s i / nthQ L (i + 1) = s.1 i * s.1 i / nthQ L i + s.2 i * s.2 i / nthQ L (i + 1) :=
  unitary (hp i (by omega)) (hp (i + 1) hi)
theorem rg_part (t : Nat) : ∀ i, i + 1 < L.length → rgIn L (rgW L t) (i + 1) = rgIn L (rgW L (t + 1)) i + (rgW L (t + 1)).1 i * (rgW L (t + 1)).1 i / nthQ L i + tlQ L (rgW L t) 0 * tlQ L (rgW L t) 0 / nthQ L 0 + trQ L (rgW L t) i * trQ L (rgW L t) i / nthQ L (i + 1)
  | 0, hi => by
    have h := rg_unit hp (rgW L t) hi
    have e : (rgW L (t + 1)).1 0 = 0 := rfl
    rw [e]
    show 0 + _ + _ = 0 + _ + _ + _
    grind
  | i + 1, hi => by
    have ih := rg_part t i (by omega)
    have h := rg_unit hp (rgW L t) hi
    have e1 : (rgW L (t + 1)).1 (i + 1) = trQ L (rgW L t) i := by show (if 1 ≤ i + 1 ∧ i + 1 + 1 < L.length then trQ L (rgW L t) (i + 1 - 1) else _) = _; rw [if_pos (by omega), Nat.add_sub_cancel]
    have e2 : (rgW L (t + 1)).2 i = tlQ L (rgW L t) (i + 1) := by show (if i + 2 < L.length then tlQ L (rgW L t) (i + 1) else _) = _; rw [if_pos (by omega)]
    rw [show rgIn L (rgW L t) (i + 1 + 1) = rgIn L (rgW L t) (i + 1) + (rgW L t).1 (i + 1) * (rgW L t).1 (i + 1) / nthQ L (i + 1) + (rgW L t).2 (i + 1) * (rgW L t).2 (i + 1) / nthQ L (i + 1 + 1) from rfl, show rgIn L (rgW L (t + 1)) (i + 1) = rgIn L (rgW L (t + 1)) i + (rgW L (t + 1)).1 i * (rgW L (t + 1)).1 i / nthQ L i + (rgW L (t + 1)).2 i * (rgW L (t + 1)).2 i / nthQ L (i + 1) from rfl, e1, e2, ih]
    grind
theorem rg_step (h2 : 2 ≤ L.length) (t : Nat) : rgIn L (rgW L t) (L.length - 1) = rgIn L (rgW L (t + 1)) (L.length - 1) + tlQ L (rgW L t) 0 * tlQ L (rgW L t) 0 / nthQ L 0 + trQ L (rgW L t) (L.length - 2) * trQ L (rgW L t) (L.length - 2) / nthQ L (L.length - 1) := by
  have h := rg_part hp t (L.length - 2) (by omega)
  rw [show L.length - 2 + 1 = L.length - 1 by omega] at h
  have e : rgIn L (rgW L (t + 1)) (L.length - 1) = rgIn L (rgW L (t + 1)) (L.length - 2) + (rgW L (t + 1)).1 (L.length - 2) * (rgW L (t + 1)).1 (L.length - 2) / nthQ L (L.length - 2) := by
    have e2 : (rgW L (t + 1)).2 (L.length - 2) = 0 := if_neg (show ¬ (L.length - 2 + 2 < L.length) by omega)
    rw [show rgIn L (rgW L (t + 1)) (L.length - 1) = rgIn L (rgW L (t + 1)) (L.length - 2 + 1) by rw [show L.length - 2 + 1 = L.length - 1 by omega]]
    show _ + _ + _ = _
    rw [e2]
    grind
  rw [h, e]
omit hp in
theorem rg_start : ∀ i, rgIn L (rgW L 0) (i + 1) = 1 / nthQ L 0
  | 0 => by
    show 0 + (if 0 = 0 then (1 : Rat) else 0) * (if 0 = 0 then 1 else 0) / nthQ L 0 + (0 : Rat) * 0 / nthQ L (0 + 1) = _
    rw [if_pos rfl]
    grind
  | i + 1 => by
    show rgIn L (rgW L 0) (i + 1) + (if i + 1 = 0 then (1 : Rat) else 0) * (if i + 1 = 0 then 1 else 0) / nthQ L (i + 1) + (0 : Rat) * 0 / nthQ L (i + 1 + 1) = _
    rw [if_neg (by omega), rg_start i]
    grind
theorem rg_energy' (h2 : 2 ≤ L.length) : ∀ k, sqQ (rgBks L k) k / nthQ L 0 + sqQ (rgThs L k) k / nthQ L (L.length - 1) + rgIn L (rgW L k) (L.length - 1) = 1 / nthQ L 0
  | 0 => by
    have h := rg_start (L := L) (L.length - 2)
    rw [show L.length - 2 + 1 = L.length - 1 by omega] at h
    show (0 : Rat) / _ + 0 / _ + _ = _
    rw [h]
    grind
  | k + 1 => by
    have ih := rg_energy' h2 k
    have hs := rg_step hp h2 k
    have e1 : sqQ (rgBks L (k + 1)) (k + 1) = sqQ (rgBks L k) k + tlQ L (rgW L k) 0 * tlQ L (rgW L k) 0 := by
      show sqQ (rgBks L (k + 1)) k + _ = _
      rw [rgBks_nth L (Nat.lt_succ_self k), sqQ_congr (B := rgBks L k) (fun i hi => by rw [rgBks_nth L (by omega), rgBks_nth L hi])]
    have e2 : sqQ (rgThs L (k + 1)) (k + 1) = sqQ (rgThs L k) k + trQ L (rgW L k) (L.length - 2) * trQ L (rgW L k) (L.length - 2) := by
      show sqQ (rgThs L (k + 1)) k + _ = _
      rw [rgThs_nth L (Nat.lt_succ_self k), sqQ_congr (B := rgThs L k) (fun i hi => by rw [rgThs_nth L (by omega), rgThs_nth L hi])]
    rw [e1, e2]
    have h0 := hp 0 (by omega)
    have hl := hp (L.length - 1) (by omega)
    generalize nthQ L 0 = a at *
    generalize nthQ L (L.length - 1) = b at *
    have ha : a ≠ 0 := by grind
    have hb : b ≠ 0 := by grind
    grind
/-- The energy of the pulse. -/
theorem rg_energy (h2 : 2 ≤ L.length) (k : Nat) : sqQ (rgBks L k) k + sqQ (rgThs L k) k * (nthQ L 0 / nthQ L (L.length - 1)) + rgIns L k = 1 := by
  have h := rg_energy' hp h2 k
  have h0 := hp 0 (by omega)
  have hl := hp (L.length - 1) (by omega)
  unfold rgIns
  generalize nthQ L 0 = a at *
  generalize nthQ L (L.length - 1) = b at *
  have ha : a ≠ 0 := by grind
  have hb : b ≠ 0 := by grind
  grind
omit hp in
theorem sq_nn (x : Rat) : 0 ≤ x * x := by
  rcases (show 0 ≤ x ∨ 0 ≤ -x by grind) with a | a
  · exact Rat.mul_nonneg a a
  · have := Rat.mul_nonneg a a
    grind
omit hp in
theorem sq_div {x p : Rat} (h : 0 < p) : 0 ≤ x * x / p := by
  rw [Rat.div_def]
  exact Rat.mul_nonneg (sq_nn x) (Rat.le_of_lt (Rat.inv_pos.2 h))
theorem rgIn_nonneg (s : Wv) : ∀ i, i < L.length → 0 ≤ rgIn L s i
  | 0, _ => Rat.le_refl
  | i + 1, hi => by
    have ih := rgIn_nonneg s i (by omega)
    have h1 := sq_div (x := s.1 i) (hp i (by omega))
    have h2 := sq_div (x := s.2 i) (hp (i + 1) hi)
    show 0 ≤ rgIn L s i + _ + _
    grind
theorem rgIns_nonneg (h2 : 2 ≤ L.length) (k : Nat) : 0 ≤ rgIns L k :=
  Rat.mul_nonneg (rgIn_nonneg hp _ _ (by omega)) (Rat.le_of_lt (hp 0 (by omega)))
end
theorem rg_par (L : List Rat) : ∀ t i, (t + i) % 2 = 1 → (rgW L t).1 i = 0 ∧ (rgW L t).2 i = 0
  | 0, i, h => ⟨by show (if i = 0 then (1 : Rat) else 0) = 0; rw [if_neg (by omega)], rfl⟩
  | t + 1, i, h => by
    constructor
    · show (if 1 ≤ i ∧ i + 1 < L.length then trQ L (rgW L t) (i - 1) else 0) = 0
      split
      · have := rg_par L t (i - 1) (by omega)
        unfold trQ
        rw [this.1, this.2]
        grind
      · rfl
    · show (if i + 2 < L.length then tlQ L (rgW L t) (i + 1) else 0) = 0
      split
      · have := rg_par L t (i + 1) (by omega)
        unfold tlQ
        rw [this.1, this.2]
        grind
      · rfl
theorem rg_odd (L : List Rat) {t : Nat} (h : t % 2 = 1) : tlQ L (rgW L t) 0 = 0 := by
  have := rg_par L t 0 (by omega)
  unfold tlQ
  rw [this.1, this.2]
  grind
theorem rg_first (L : List Rat) : tlQ L (rgW L 0) 0 = rgR L 0 := by
  show rgR L 0 * (if 0 = 0 then (1 : Rat) else 0) + (1 - rgR L 0) * 0 = _
  rw [if_pos rfl]
  grind
theorem rg_second {L : List Rat} (h : 3 ≤ L.length) : tlQ L (rgW L 2) 0 = 1 * (1 - rgR L 0 * rgR L 0) * rgR L 1 := by
  have e1 : (rgW L 2).1 0 = 0 := rfl
  have e2 : (rgW L 2).2 0 = tlQ L (rgW L 1) 1 := by show (if 0 + 2 < L.length then tlQ L (rgW L 1) (0 + 1) else _) = _; rw [if_pos (by omega)]
  have e3 : (rgW L 1).1 1 = trQ L (rgW L 0) 0 := by show (if 1 ≤ 1 ∧ 1 + 1 < L.length then trQ L (rgW L 0) (1 - 1) else _) = _; rw [if_pos (by omega)]
  have e4 : (rgW L 1).2 1 = 0 := by
    show (if 1 + 2 < L.length then tlQ L (rgW L 0) (1 + 1) else 0) = 0
    split
    · show rgR L 2 * (if 1 + 1 = 0 then (1 : Rat) else 0) + (1 - rgR L 2) * 0 = 0
      rw [if_neg (by omega)]
      grind
    · rfl
  have e5 : trQ L (rgW L 0) 0 = 1 + rgR L 0 := by
    show (1 + rgR L 0) * (if 0 = 0 then (1 : Rat) else 0) - rgR L 0 * 0 = _
    rw [if_pos rfl]
    grind
  unfold tlQ
  rw [e1, e2]
  unfold tlQ
  rw [e3, e4, e5]
  grind
end Go.Proofs.Ytkfekkhhfpkfaaa
