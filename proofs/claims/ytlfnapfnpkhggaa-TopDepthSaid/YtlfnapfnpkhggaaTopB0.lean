/-
  Top: TopDepth's plain part: the echoes of a stack of plies tell the depths of its boundaries.
-/
import Derived.Test.YtlfnapfnpkhggaaTopA
import Derived.Test.YtlfnapfnpkhggaaLawBet0
import Derived.Test.YtlfnapfnpkhggaaPlies
set_option linter.unusedSimpArgs false
set_option linter.unusedVariables false
namespace Go.Proofs.Ytlfnapfnpkhggaa
open Go.RowKit Dg

/-- The impedance of ply i. -/
def zAt (I : List Int) (i : Nat) : Int := if i < I.length then 1 + I.getD i 0 else 1
/-- The thickness of ply i, as a fraction. -/
def tkQ (L : List I3) (i : Nat) : Rat := ((i3At L i).2.2 : Rat)
def lyL (L : List I3) (I : List Int) (s : Rat) (j : Nat) : List Lay := (List.range j).map fun i => ((zAt I i : Rat), tkQ L i, s)
def TH (L : List I3) (j : Nat) : List Rat := (List.range j).map (tkQ L)
theorem lyL_len (L : List I3) (I : List Int) (s : Rat) (j : Nat) : (lyL L I s j).length = j := by simp [lyL]
theorem TH_len (L : List I3) (j : Nat) : (TH L j).length = j := by simp [TH]
theorem lyL_succ (L : List I3) (I : List Int) (s : Rat) (j : Nat) : lyL L I s (j + 1) = lyL L I s j ++ [((zAt I j : Rat), tkQ L j, s)] := by unfold lyL; rw [List.range_succ, List.map_append]; rfl
theorem TH_succ (L : List I3) (j : Nat) : TH L (j + 1) = TH L j ++ [tkQ L j] := by unfold TH; rw [List.range_succ, List.map_append]; rfl
theorem lyL_at {L : List I3} {I : List Int} {s : Rat} {n i : Nat} (h : i < n) : layAt (lyL L I s n) i = ((zAt I i : Rat), tkQ L i, s) := by
  unfold layAt lyL
  rw [List.getElem?_map, List.getElem?_range h]; rfl
theorem TH_at {L : List I3} {n i : Nat} (h : i < n) : nthQ (TH L n) i = tkQ L i := by
  unfold nthQ TH
  rw [List.getD_eq_getElem?_getD, List.getElem?_map, List.getElem?_range h]; rfl
theorem top_thk {L : List I3} {n : Nat} : ∀ k, k ≤ n → topQ (TH L n) k = ((thk L k : Int) : Rat)
  | 0, _ => rfl
  | k + 1, h => by
    show topQ (TH L n) k + nthQ (TH L n) k = (((thk L k + (i3At L k).2.2 : Int)) : Rat)
    rw [top_thk k (by omega), TH_at (by omega), Rat.intCast_add]; rfl
theorem tk_bd {L : List I3} (hok : ∀ x ∈ L, PlyOk x) {i : Nat} (hi : i < L.length) : 1 ≤ (i3At L i).2.2 ∧ (i3At L i).2.2 ≤ 128 := by
  have := i3_ok hok i hi
  unfold PlyOk at this
  exact this.2.2.2.2.2
theorem tk_pos {L : List I3} (hok : ∀ x ∈ L, PlyOk x) {i : Nat} (hi : i < L.length) : 0 < tkQ L i := by
  have := (tk_bd hok hi).1
  unfold tkQ
  exact_mod_cast (show (0 : Int) < (i3At L i).2.2 by omega)
theorem tk_sz {L : List I3} (hok : ∀ x ∈ L, PlyOk x) {i : Nat} (hi : i < L.length) : SzQ 1 (tkQ L i) := by
  have := tk_bd hok hi
  exact szQ_int (by omega)
theorem top_sz {L : List I3} (hok : ∀ x ∈ L, PlyOk x) (h64 : L.length ≤ 64) {k : Nat} (hk : k ≤ L.length) : SzQ 1 (topQ (TH L L.length) k) := by
  rw [top_thk k hk]
  have := thk_bd hok k hk
  exact szQ_int (by omega)
theorem top_lt {L : List I3} (hok : ∀ x ∈ L, PlyOk x) {i : Nat} (hi : i < L.length) : topQ (TH L L.length) i < topQ (TH L L.length) (i + 1) := by
  have := tk_pos hok hi
  show _ < topQ (TH L L.length) i + nthQ (TH L L.length) i
  rw [TH_at hi]; grind
theorem top_mono {L : List I3} (hok : ∀ x ∈ L, PlyOk x) {i j : Nat} (h : i ≤ j) (hj : j ≤ L.length) : topQ (TH L L.length) i ≤ topQ (TH L L.length) j := by
  induction h with
  | refl => exact Rat.le_refl
  | @step m h ih =>
    have a := ih (by omega)
    have b := top_lt hok (show m < L.length by omega)
    exact Rat.le_trans a (Rat.le_of_lt b)
/-- The depth of a boundary lies in the plies on both sides. -/
theorem hit_iff {L : List I3} (hok : ∀ x ∈ L, PlyOk x) {i j : Nat} (hi : i + 1 < L.length) (hj : j < L.length) : hitB (TH L L.length) (topQ (TH L L.length) (i + 1)) (topQ (TH L L.length) (i + 1)) j = decide (j = i ∨ j = i + 1) := by
  unfold hitB
  by_cases h1 : j < i
  · have a := top_lt hok (show i < L.length by omega)
    have b := top_mono hok (show j + 1 ≤ i by omega) (by omega)
    rw [decide_eq_true (show topQ (TH L L.length) (j + 1) < topQ (TH L L.length) (i + 1) by grind), decide_eq_false (show ¬ (j = i ∨ j = i + 1) by omega)]; rfl
  · by_cases h2 : i + 1 < j
    · have a := top_lt hok (show i + 1 < L.length by omega)
      have b := top_mono hok (show i + 1 + 1 ≤ j by omega) (by omega)
      rw [decide_eq_true (show topQ (TH L L.length) (i + 1) < topQ (TH L L.length) j by grind), decide_eq_false (show ¬ (j = i ∨ j = i + 1) by omega)]; simp
    · have a := top_mono hok (show i + 1 ≤ j + 1 by omega) (by omega)
      have b := top_mono hok (show j ≤ i + 1 by omega) (by omega)
      rw [decide_eq_false (show ¬ topQ (TH L L.length) (j + 1) < topQ (TH L L.length) (i + 1) by grind), decide_eq_false (show ¬ topQ (TH L L.length) (i + 1) < topQ (TH L L.length) j by grind), decide_eq_true (show j = i ∨ j = i + 1 by omega)]; rfl
theorem pl_at {L : List I3} (hok : ∀ x ∈ L, PlyOk x) {i : Nat} (hi : i + 1 < L.length) {t : Rat} (ht : t = topQ (TH L L.length) (i + 1)) : ∀ k, k ≤ L.length → plF (TH L L.length) t t k = (if k ≤ i then -1 else (i : Int)) ∧ plL (TH L L.length) t t k = (if k ≤ i then -1 else if k ≤ i + 1 then (i : Int) else (i : Int) + 1)
  | 0, _ => by rw [if_pos (Nat.zero_le _), if_pos (Nat.zero_le _)]; exact ⟨rfl, rfl⟩
  | k + 1, hk => by
    have ih := pl_at hok hi ht k (by omega)
    have h := hit_iff hok hi (show k < L.length by omega)
    rw [← ht] at h
    by_cases h1 : k < i
    · rw [decide_eq_false (show ¬ (k = i ∨ k = i + 1) by omega)] at h
      rw [plF_no h, plL_no h, ih.1, ih.2, if_pos (by omega), if_pos (by omega), if_pos (by omega), if_pos (by omega)]; exact ⟨rfl, rfl⟩
    · by_cases h2 : k = i
      · subst h2
        rw [decide_eq_true (show k = k ∨ k = k + 1 by omega)] at h
        have hf : plF (TH L L.length) t t k < 0 := by rw [ih.1, if_pos (Nat.le_refl _)]; decide
        rw [plF_yes h hf, plL_yes h, if_neg (by omega), if_neg (by omega), if_pos (Nat.le_refl _)]; exact ⟨rfl, rfl⟩
      · have hn : ¬ plF (TH L L.length) t t k < 0 := by rw [ih.1, if_neg (by omega)]; omega
        by_cases h3 : k = i + 1
        · subst h3
          rw [decide_eq_true (show i + 1 = i ∨ i + 1 = i + 1 by omega)] at h
          rw [plF_more h hn, plL_yes h, ih.1, if_neg (by omega), if_neg (by omega), if_neg (by omega), if_neg (by omega)]; exact ⟨rfl, by omega⟩
        · rw [decide_eq_false (show ¬ (k = i ∨ k = i + 1) by omega)] at h
          rw [plF_no h, plL_no h, ih.1, ih.2, if_neg (by omega), if_neg (by omega), if_neg (by omega), if_neg (by omega), if_neg (by omega), if_neg (by omega)]; exact ⟨rfl, rfl⟩
theorem plR_at {L : List I3} (hok : ∀ x ∈ L, PlyOk x) {i : Nat} (hi : i + 1 < L.length) {t : Rat} (ht : t = topQ (TH L L.length) (i + 1)) : plR (TH L L.length) t t = .tuple #[.int .i64 i, .int .i64 ((i : Int) + 1), .int .i64 0] := by
  have h := pl_at hok hi ht L.length (Nat.le_refl _)
  rw [if_neg (by omega)] at h
  rw [if_neg (by omega), if_neg (by omega)] at h
  have e : (TH L L.length).length = L.length := TH_len _ _
  rw [plR_yes (by rw [e, h.1]; omega), e, h.1, h.2]
theorem tm_top {L : List I3} {I : List Int} {s : Rat} (hs : s ≠ 0) {n : Nat} : ∀ k, k ≤ n → tmQ (lyL L I s n) k * s * halfQ = topQ (TH L n) k
  | 0, _ => by show (0 : Rat) * s * halfQ = 0; rw [Rat.zero_mul, Rat.zero_mul]
  | k + 1, h => by
    have ih := tm_top (L := L) (I := I) hs k (show k ≤ n by omega)
    show (tmQ (lyL L I s n) k + ((layAt (lyL L I s n) k).2.1 + (layAt (lyL L I s n) k).2.1) / (layAt (lyL L I s n) k).2.2) * s * halfQ = topQ (TH L n) k + nthQ (TH L n) k
    rw [lyL_at (by omega), TH_at (by omega), ← ih]
    show (tmQ (lyL L I s n) k + (tkQ L k + tkQ L k) / s) * s * halfQ = tmQ (lyL L I s n) k * s * halfQ + tkQ L k
    have hh : halfQ = 1 / 2 := by unfold halfQ; decide +kernel
    rw [hh]
    grind
theorem tm_nonneg {L : List I3} (hok : ∀ x ∈ L, PlyOk x) {I : List Int} {s : Rat} (hs : 0 < s) {n : Nat} (hn : n ≤ L.length) : ∀ k, k ≤ n → 0 ≤ tmQ (lyL L I s n) k
  | 0, _ => Rat.le_refl
  | k + 1, h => by
    have ih := tm_nonneg hok (I := I) hs hn k (by omega)
    have p := tk_pos hok (show k < L.length by omega)
    show 0 ≤ tmQ (lyL L I s n) k + ((layAt (lyL L I s n) k).2.1 + (layAt (lyL L I s n) k).2.1) / (layAt (lyL L I s n) k).2.2
    rw [lyL_at (by omega)]
    show 0 ≤ tmQ (lyL L I s n) k + (tkQ L k + tkQ L k) / s
    have : 0 < (tkQ L k + tkQ L k) / s := by rw [Rat.lt_div_iff hs]; grind
    grind
/-- What Depth hands back at an echo. -/
theorem dep_at {L : List I3} (hok : ∀ x ∈ L, PlyOk x) {I : List Int} {s : Rat} (hs : 0 < s) {k : Nat} (hk : k ≤ L.length) {t : Rat} (ht : t = tmQ (lyL L I s L.length) k) : depQ t t s s = (topQ (TH L L.length) k, topQ (TH L L.length) k, 0) := by
  subst ht
  rw [depQ_pos (tm_nonneg hok hs (Nat.le_refl _) k hk) Rat.le_refl (Rat.le_of_lt hs) Rat.le_refl, tm_top (fun e => by rw [e] at hs; exact absurd hs (by decide +kernel)) k hk]
theorem zAt_bd {I : List Int} (h : ∀ x ∈ I, 0 ≤ x ∧ x ≤ 255) (i : Nat) : 1 ≤ zAt I i ∧ zAt I i ≤ 256 := by
  unfold zAt
  split
  · rename_i hi
    have e : I.getD i 0 = I[i] := by rw [List.getD_eq_getElem?_getD, List.getElem?_eq_getElem hi]; rfl
    have := h _ (List.getElem_mem hi)
    rw [e]; omega
  · omega
theorem lyL_sz {L : List I3} (hok : ∀ x ∈ L, PlyOk x) {I : List Int} (hI : ∀ x ∈ I, 0 ≤ x ∧ x ≤ 255) {s : Rat} (ss : SzQ 1 s) : ∀ x ∈ lyL L I s L.length, LaySz 1 x := fun x hx => by
  obtain ⟨i, hi, rfl⟩ := List.mem_map.1 hx
  have hi' := List.mem_range.1 hi
  have z := zAt_bd hI i
  exact ⟨szQ_int (by omega), tk_sz hok hi', ss⟩
theorem lyL_pos {L : List I3} (hok : ∀ x ∈ L, PlyOk x) {I : List Int} (hI : ∀ x ∈ I, 0 ≤ x ∧ x ≤ 255) {s : Rat} (hs : 0 < s) : (lyL L I s L.length).all layPos = true := by
  refine List.all_eq_true.2 fun x hx => ?_
  obtain ⟨i, hi, rfl⟩ := List.mem_map.1 hx
  have hi' := List.mem_range.1 hi
  have z := zAt_bd hI i
  have z0 : (0 : Rat) < (zAt I i : Rat) := by exact_mod_cast (show (0 : Int) < zAt I i by omega)
  simp [layPos, z0, tk_pos hok hi', hs]
theorem TH_pos {L : List I3} (hok : ∀ x ∈ L, PlyOk x) : allPos (TH L L.length) = true := by
  refine List.all_eq_true.2 fun x hx => ?_
  obtain ⟨i, hi, rfl⟩ := List.mem_map.1 hx
  simpa using tk_pos hok (List.mem_range.1 hi)
theorem TH_sz {L : List I3} (hok : ∀ x ∈ L, PlyOk x) (i : Nat) (hi : i < (TH L L.length).length) : SzQ 1 (nthQ (TH L L.length) i) := by
  rw [TH_len] at hi
  rw [TH_at hi]; exact tk_sz hok hi
end Go.Proofs.Ytlfnapfnpkhggaa
