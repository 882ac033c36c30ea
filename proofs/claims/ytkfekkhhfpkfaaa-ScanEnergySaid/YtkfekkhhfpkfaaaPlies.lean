/-
  scan.Plies: which plies have a depth.
-/
import Derived.Test.YtkfekkhhfpkfaaaRangeP
import Derived.Test.YtkfekkhhfpkfaaaPkScan
set_option linter.unusedSimpArgs false
set_option linter.unusedVariables false
namespace Go.Proofs.Ytkfekkhhfpkfaaa
open Go.RowKit Dg
attribute [local go_sem ↓] Go.wp_at_zero Go.wp_at_succ

/-- The depth of the k-th boundary. -/
def topQ (L : List Rat) : Nat → Rat
  | 0 => 0
  | k + 1 => topQ L k + nthQ L k
theorem topQ_sz {L : List Rat} {K : Nat} (h : ∀ i, i < L.length → SzQ K (nthQ L i)) : ∀ k, k ≤ L.length → SzQ (k * (K + 1) + 1) (topQ L k)
  | 0, _ => szQ_zero.mono (by omega)
  | k + 1, hk => (SzQ.add (topQ_sz h k (by omega)) (h k (by omega))).mono (by rw [Nat.succ_mul]; omega)
theorem topQ_mid {L : List Rat} (h : ∀ i, i < L.length → SzQ 50000 (nthQ L i)) (hl : L.length ≤ 12) (k : Nat) (hk : k ≤ L.length) : SzQ 700000 (topQ L k) := (topQ_sz h k hk).mono (by omega)
theorem nthQ_pos {L : List Rat} (h : allPos L = true) (i : Nat) (hi : i < L.length) : 0 < nthQ L i := by
  have := List.all_eq_true.1 h _ (List.mem_of_getElem? (nthQ_some hi))
  simpa using this
theorem le_add_pos {x y : Rat} (h : 0 < y) : x ≤ x + y := by
  have := (Rat.add_le_add_left (c := x)).2 (Rat.le_of_lt h)
  rwa [Rat.add_zero] at this
/-- Does the i-th ply have a depth between lo and hi? -/
def hitB (L : List Rat) (lo hi : Rat) (i : Nat) : Bool := !decide (topQ L (i + 1) < lo) && !decide (hi < topQ L i)
/-- The first and the last one of the first k plies that have such a depth; -1: none. -/
def plF (L : List Rat) (lo hi : Rat) : Nat → Int
  | 0 => -1
  | k + 1 => if hitB L lo hi k = true then (if plF L lo hi k < 0 then (k : Int) else plF L lo hi k) else plF L lo hi k
def plL (L : List Rat) (lo hi : Rat) : Nat → Int
  | 0 => -1
  | k + 1 => if hitB L lo hi k = true then (k : Int) else plL L lo hi k
/-- What Plies hands back. -/
def plR (L : List Rat) (lo hi : Rat) : Value := .tuple #[.int .i64 (if plF L lo hi L.length < 0 then 0 else plF L lo hi L.length), .int .i64 (if plF L lo hi L.length < 0 then 0 else plL L lo hi L.length), .int .i64 (if plF L lo hi L.length < 0 then 5 else 0)]
theorem plR_no {L : List Rat} {lo hi : Rat} (h : plF L lo hi L.length < 0) : plR L lo hi = .tuple #[.int .i64 0, .int .i64 0, .int .i64 5] := by unfold plR; rw [if_pos h, if_pos h, if_pos h]
theorem plR_yes {L : List Rat} {lo hi : Rat} (h : ¬ plF L lo hi L.length < 0) : plR L lo hi = .tuple #[.int .i64 (plF L lo hi L.length), .int .i64 (plL L lo hi L.length), .int .i64 0] := by unfold plR; rw [if_neg h, if_neg h, if_neg h]
theorem plF_bd (L : List Rat) (lo hi : Rat) : ∀ k, -1 ≤ plF L lo hi k ∧ plF L lo hi k ≤ k
  | 0 => ⟨by show (-1 : Int) ≤ -1; omega, by show (-1 : Int) ≤ _; omega⟩
  | k + 1 => by
    have ih := plF_bd L lo hi k
    unfold plF
    split
    · split <;> omega
    · omega
theorem plL_bd (L : List Rat) (lo hi : Rat) : ∀ k, -1 ≤ plL L lo hi k ∧ plL L lo hi k ≤ k
  | 0 => ⟨by show (-1 : Int) ≤ -1; omega, by show (-1 : Int) ≤ _; omega⟩
  | k + 1 => by
    have ih := plL_bd L lo hi k
    unfold plL
    split <;> omega
theorem hitB_tt {L : List Rat} {lo hi : Rat} {i : Nat} (h1 : ¬ topQ L i + nthQ L i < lo) (h2 : ¬ hi < topQ L i) : hitB L lo hi i = true := by
  unfold hitB
  rw [decide_eq_false (show ¬ topQ L (i + 1) < lo from h1), decide_eq_false h2]
  rfl
theorem hitB_f1 {L : List Rat} {lo hi : Rat} {i : Nat} (h1 : topQ L i + nthQ L i < lo) : hitB L lo hi i = false := by
  unfold hitB
  rw [decide_eq_true (show topQ L (i + 1) < lo from h1)]
  rfl
theorem hitB_f2 {L : List Rat} {lo hi : Rat} {i : Nat} (h1 : ¬ topQ L i + nthQ L i < lo) (h2 : hi < topQ L i) : hitB L lo hi i = false := by
  unfold hitB
  rw [decide_eq_false (show ¬ topQ L (i + 1) < lo from h1), decide_eq_true h2]
  rfl
theorem plF_no {L : List Rat} {lo hi : Rat} {k : Nat} (h : hitB L lo hi k = false) : plF L lo hi (k + 1) = plF L lo hi k := by show (if _ then _ else _) = _; rw [h]; rfl
theorem plL_no {L : List Rat} {lo hi : Rat} {k : Nat} (h : hitB L lo hi k = false) : plL L lo hi (k + 1) = plL L lo hi k := by show (if _ then _ else _) = _; rw [h]; rfl
theorem plL_yes {L : List Rat} {lo hi : Rat} {k : Nat} (h : hitB L lo hi k = true) : plL L lo hi (k + 1) = k := by show (if _ then _ else _) = _; rw [h]; rfl
theorem plF_yes {L : List Rat} {lo hi : Rat} {k : Nat} (h : hitB L lo hi k = true) (h1 : plF L lo hi k < 0) : plF L lo hi (k + 1) = k := by show (if _ then _ else _) = _; rw [h, if_pos h1]; rfl
theorem plF_more {L : List Rat} {lo hi : Rat} {k : Nat} (h : hitB L lo hi k = true) (h1 : ¬ plF L lo hi k < 0) : plF L lo hi (k + 1) = plF L lo hi k := by show (if _ then _ else _) = _; rw [h, if_neg h1]; rfl
theorem sc_above_true {v : Value} {l : List Rat} {w : World} (h : allPos l = true) (hl : Rows 3 32 PC w v l) : Calls Try.prog 21 #[v] w (RetV w (.bool true)) := h ▸ sc_above v l w hl
theorem sc_above_false {v : Value} {l : List Rat} {w : World} (h : allPos l = false) (hl : Rows 3 32 PC w v l) : Calls Try.prog 21 #[v] w (RetV w (.bool false)) := h ▸ sc_above v l w hl




end Go.Proofs.Ytkfekkhhfpkfaaa
