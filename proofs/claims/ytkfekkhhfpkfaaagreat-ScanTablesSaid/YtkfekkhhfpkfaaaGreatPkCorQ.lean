/-
  The correction of a trace by a table: plain laws.
-/
import Derived.Test.YtkfekkhhfpkfaaaGreatPkTabQ
import Derived.Test.YtkfekkhhfpkfaaaGreatPkGrQ
import Derived.Test.YtkfekkhhfpkfaaaGreatPkPeakBQ
set_option linter.unusedSimpArgs false
set_option linter.unusedVariables false
namespace Go.Proofs.YtkfekkhhfpkfaaaGreat
def facQ (T : List Stp) (x : Rat) : Rat := if x < taQ T 0 then vaQ T 0 else if taQ T (T.length - 1) < x then vaQ T (T.length - 1) else (valQ T x).1
theorem facQ_lo {T : List Stp} {x : Rat} (h : x < taQ T 0) : facQ T x = vaQ T 0 := by unfold facQ; rw [if_pos h]
theorem facQ_hi {T : List Stp} {x : Rat} (h0 : ¬ x < taQ T 0) (h : taQ T (T.length - 1) < x) : facQ T x = vaQ T (T.length - 1) := by unfold facQ; rw [if_neg h0, if_pos h]
theorem facQ_in {T : List Stp} {x : Rat} (h0 : ¬ x < taQ T 0) (h : ¬ taQ T (T.length - 1) < x) : facQ T x = (valQ T x).1 := by unfold facQ; rw [if_neg h0, if_neg h]
theorem ta_all {T : List Stp} (h : AscT T T.length) : ∀ k, k < T.length → taQ T 0 ≤ taQ T k
  | 0, _ => Rat.le_refl
  | k + 1, hk => by
    have hT1 := ta_all h k (by omega)
    have h2 := h k hk
    grind
theorem ta_ends {T : List Stp} (h : AscT T T.length) (hT1 : 1 ≤ T.length) {x : Rat} (hx : x < taQ T 0) : ¬ taQ T (T.length - 1) < x := by
  have := ta_all h (T.length - 1) (by omega)
  grind
theorem ta_ends' {T : List Stp} (h : AscT T T.length) (hT1 : 1 ≤ T.length) : ¬ taQ T (T.length - 1) < taQ T 0 := by
  have := ta_all h (T.length - 1) (by omega)
  grind
theorem valQ_lo {T : List Stp} (hT1 : 1 ≤ T.length) : valQ T (taQ T 0) = (vaQ T 0, 0) := valQ_eq (by omega) (fun j hj => absurd hj (Nat.not_lt_zero j)) rfl
theorem valQ_hi {T : List Stp} (h : AscT T T.length) (hT1 : 1 ≤ T.length) : valQ T (taQ T (T.length - 1)) = (vaQ T (T.length - 1), 0) :=
  valQ_eq (by omega) (fun j hj => h.lt _ _ hj (by omega)) rfl
theorem valQ_pair (T : List Stp) (x : Rat) : valQ T x = ((valQ T x).1, (valQ T x).2) := rfl
def corQ (T : List Stp) (L : List Rat) (i : Nat) : Rat := nthQ L i * facQ T ((i : Int) : Rat)
def corK (T : List Stp) (L : List Rat) (k : Nat) : List Rat := (List.range k).map (corQ T L)
theorem corK_len (T : List Stp) (L : List Rat) (k : Nat) : (corK T L k).length = k := by unfold corK; simp
theorem corK_step {T : List Stp} {L : List Rat} {k : Nat} {q : Rat} (h : facQ T ((k : Int) : Rat) = q) : corK T L k ++ [nthQ L k * q] = corK T L (k + 1) := by
  unfold corK
  rw [List.range_succ, List.map_append]
  show _ = _ ++ [corQ T L k]
  unfold corQ
  rw [h]
def corP (T : List Stp) (L : List Rat) (k : Nat) : List Rat := (List.range L.length).map fun i => if i < k then corQ T L i else nthQ L i
theorem corP_len (T : List Stp) (L : List Rat) (k : Nat) : (corP T L k).length = L.length := by unfold corP; simp
theorem range_get (f : Nat → Rat) (n i : Nat) : ((List.range n).map f)[i]? = if i < n then some (f i) else none := by
  rw [List.getElem?_map]
  by_cases h : i < n
  · rw [if_pos h, List.getElem?_range h]; rfl
  · rw [if_neg h, List.getElem?_eq_none (by rw [List.length_range]; omega)]; rfl
theorem corP_zero (T : List Stp) (L : List Rat) : corP T L 0 = L := by
  unfold corP
  refine List.ext_getElem? fun i => ?_
  rw [range_get]
  by_cases h : i < L.length
  · rw [if_pos h, if_neg (Nat.not_lt_zero i), nthQ_some h]
  · rw [if_neg h, List.getElem?_eq_none (by omega)]
theorem corP_all (T : List Stp) (L : List Rat) : corP T L L.length = corK T L L.length := by
  unfold corP corK
  refine List.map_congr_left fun i hi => ?_
  rw [if_pos (List.mem_range.1 hi)]
theorem corP_at {T : List Stp} {L : List Rat} {k : Nat} (h : k < L.length) : nthQ (corP T L k) k = nthQ L k := by
  have e := range_get (fun i => if i < k then corQ T L i else nthQ L i) L.length k
  rw [if_pos h, if_neg (Nat.lt_irrefl k)] at e
  unfold corP
  show List.getD _ k 0 = _
  rw [List.getD_eq_getElem?_getD, e]
  rfl
theorem corP_step {T : List Stp} {L : List Rat} {k : Nat} {q : Rat} (hk : k < L.length) (h : facQ T ((k : Int) : Rat) = q) : (corP T L k).set k (nthQ L k * q) = corP T L (k + 1) := by
  unfold corP
  refine List.ext_getElem? fun i => ?_
  rw [List.getElem?_set, range_get, range_get, List.length_map, List.length_range]
  by_cases e : k = i
  · subst e
    rw [if_pos rfl, if_pos hk, if_pos hk, if_pos (Nat.lt_succ_self k)]
    unfold corQ
    rw [h]
  · rw [if_neg e]
    by_cases hi : i < L.length
    · rw [if_pos hi, if_pos hi]
      by_cases hik : i < k
      · rw [if_pos hik, if_pos (by omega)]
      · rw [if_neg hik, if_neg (by omega)]
    · rw [if_neg hi, if_neg hi]
theorem facQ_sz {T : List Stp} {x : Rat} (hz : TabSz T) (hT1 : 1 ≤ T.length) (hx : SzQ 100 x) : SzQ 400 (facQ T x) := by
  unfold facQ
  split
  · exact ((hz 0 (by omega)).2).mono (by decide)
  · split
    · exact ((hz (T.length - 1) (by omega)).2).mono (by decide)
    · exact valQ_sz hz hx
end Go.Proofs.YtkfekkhhfpkfaaaGreat
namespace Go.Proofs.YtkfekkhhfpkfaaaGreat
def corE (ys : List Nat) (T : List Stp) : Int := if traceE ys = 0 then tabE T else traceE ys
def corV (ys : List Nat) (T : List Stp) : List Rat := if corE ys T = 0 then corK T (yQ ys) ys.length else []
theorem corV_sz {ys : List Nat} {T : List Stp} (hz : TabSz T) (i : Nat) (hi : i < (corV ys T).length) : SzQ 30000 (nthQ (corV ys T) i) := by
  unfold corV at hi ⊢
  by_cases e : corE ys T = 0
  · rw [if_pos e] at hi ⊢
    rw [corK_len] at hi
    have et : traceE ys = 0 := by
      unfold corE at e
      split at e
      · assumption
      · assumption
    have e2 : tabE T = 0 := by unfold corE at e; rwa [if_pos et] at e
    obtain ⟨hN, hno⟩ := trace_zero et
    have hT1 := (tabE_ok e2).1
    have e5 : nthQ (corK T (yQ ys) ys.length) i = corQ T (yQ ys) i := by
      unfold corK nthQ
      rw [List.getD_eq_getElem?_getD, List.getElem?_map, List.getElem?_range hi]
      rfl
    rw [e5]
    unfold corQ
    have hy : ys[i]? = some (ys[i]'hi) := List.getElem?_eq_getElem hi
    have e6 : nthQ (yQ ys) i = flQ (cvF (ys[i]'hi)) := by
      unfold yQ nthQ
      rw [List.getD_eq_getElem?_getD, List.getElem?_map, hy]
      rfl
    rw [e6]
    exact (SzQ.mul (flQ_sz (cv_fin (hno _ (List.getElem_mem hi))).2) (facQ_sz hz hT1 ((szQ_int (n := (i : Int)) (by omega)).mono (by decide)))).mono (by decide)
  · rw [if_neg e] at hi
    exact absurd hi (Nat.not_lt_zero i)
end Go.Proofs.YtkfekkhhfpkfaaaGreat
