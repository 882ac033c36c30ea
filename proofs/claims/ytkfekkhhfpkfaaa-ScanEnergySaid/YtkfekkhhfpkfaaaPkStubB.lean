/-
  slices.MinFunc and MaxFunc at the program's fractions, by Ratio.Cmp: the first least one, the first greatest one of a list.
-/
import Derived.Test.YtkfekkhhfpkfaaaPkGr
import Derived.Test.YtkfekkhhfpkfaaaPkHeld
import Derived.Test.YtkfekkhhfpkfaaaRangeP
import Derived.Test.YtkfekkhhfpkfaaaPkLaw
import Derived.Test.YtkfekkhhfpkfaaaNumbers
set_option linter.unusedSimpArgs false
set_option linter.unusedVariables false
namespace Go.Proofs.Ytkfekkhhfpkfaaa
open Go.RowKit Dg
attribute [local go_sem ↓] Go.wp_at_zero Go.wp_at_succ



end Go.Proofs.Ytkfekkhhfpkfaaa
/-
  The program's around, Hull and Mul of ranges.
-/
namespace Go.Proofs.Ytkfekkhhfpkfaaa
open Go.RowKit Dg
attribute [local go_sem ↓] Go.wp_at_zero Go.wp_at_succ

theorem rows4P {w : World} {g : Nat} {a0 b0 c0 a1 b1 c1 a2 b2 c2 a3 b3 c3 : Value} {x0 x1 x2 x3 : Rat} (h : Bx w g 32 #[a0, b0, c0, a1, b1, c1, a2, b2, c2, a3, b3, c3]) (h0 : PV w (.agg #[a0, b0, c0]) x0) (h1 : PV w (.agg #[a1, b1, c1]) x1) (h2 : PV w (.agg #[a2, b2, c2]) x2) (h3 : PV w (.agg #[a3, b3, c3]) x3) : Rows 3 32 PC w (.slice (some ⟨g, 0, none⟩) 4 4) [x0, x1, x2, x3] := by
  refine ⟨_, 4, rfl, Nat.le_refl _, by show 4 ≤ _; omega, (fun e => by cases e), (fun a ea _ => by cases ea; exact h.ty), fun i x hx => ?_⟩
  match i, hx with
  | 0, hx => cases hx; exact ⟨g, 0, [a0, b0, c0], rfl, rfl, (fun j u hu => by match j, hu with | 0, hu => cases hu; exact h.at 0 rfl | 1, hu => cases hu; exact h.at 1 rfl | 2, hu => cases hu; exact h.at 2 rfl), ⟨_, _, _, rfl, h0⟩⟩
  | 1, hx => cases hx; exact ⟨g, 0, [a1, b1, c1], rfl, rfl, (fun j u hu => by match j, hu with | 0, hu => cases hu; exact h.at 3 rfl | 1, hu => cases hu; exact h.at 4 rfl | 2, hu => cases hu; exact h.at 5 rfl), ⟨_, _, _, rfl, h1⟩⟩
  | 2, hx => cases hx; exact ⟨g, 0, [a2, b2, c2], rfl, rfl, (fun j u hu => by match j, hu with | 0, hu => cases hu; exact h.at 6 rfl | 1, hu => cases hu; exact h.at 7 rfl | 2, hu => cases hu; exact h.at 8 rfl), ⟨_, _, _, rfl, h2⟩⟩
  | 3, hx => cases hx; exact ⟨g, 0, [a3, b3, c3], rfl, rfl, (fun j u hu => by match j, hu with | 0, hu => cases hu; exact h.at 9 rfl | 1, hu => cases hu; exact h.at 10 rfl | 2, hu => cases hu; exact h.at 11 rfl), ⟨_, _, _, rfl, h3⟩⟩
theorem fit4 {x y z u : Rat} (hx : Fit x) (hy : Fit y) (hz : Fit z) (hu : Fit u) : ∀ i, i < [x, y, z, u].length → Fit (nthQ [x, y, z, u] i) := by
  intro i hi
  match i, hi with
  | 0, _ => exact hx
  | 1, _ => exact hy
  | 2, _ => exact hz
  | 3, _ => exact hu



end Go.Proofs.Ytkfekkhhfpkfaaa
/-
  The reference's ranges: Only, least, most, Hull, SMul, Has, Before.
-/
namespace Go.Proofs.Ytkfekkhhfpkfaaa
open Go.RowKit Dg
attribute [local go_sem ↓] Go.wp_at_zero Go.wp_at_succ

/-- The lesser one, the greater one of two numbers. -/
def mnQ (x y : Rat) : Rat := if x ≤ y then x else y
def mxQ (x y : Rat) : Rat := if y ≤ x then x else y
theorem mnQ_sz {K : Nat} {x y : Rat} (hx : SzQ K x) (hy : SzQ K y) : SzQ K (mnQ x y) := by unfold mnQ; split <;> assumption
theorem mxQ_sz {K : Nat} {x y : Rat} (hx : SzQ K x) (hy : SzQ K y) : SzQ K (mxQ x y) := by unfold mxQ; split <;> assumption





end Go.Proofs.Ytkfekkhhfpkfaaa
/-
  Law 07: span: a range of plain data, the program's and the reference's one.
-/
namespace Go.Proofs.Ytkfekkhhfpkfaaa
open Go.RowKit Dg
attribute [local go_sem ↓] Go.wp_at_zero Go.wp_at_succ

theorem mnL2 (x y : Rat) : mnL [x, x, y, y] 3 = mnQ x y := by
  have e : mnL [x, x, y, y] 3 = if y < (if y < (if x < x then x else x) then y else (if x < x then x else x)) then y else (if y < (if x < x then x else x) then y else (if x < x then x else x)) := rfl
  rw [e, if_neg (Rat.lt_irrefl (a := x))]
  unfold mnQ
  by_cases h : y < x
  · rw [if_pos h, if_neg (Rat.lt_irrefl (a := y)), if_neg (Rat.not_le.2 h)]
  · rw [if_neg h, if_neg h, if_pos (Rat.not_lt.1 h)]
theorem mxL2 (x y : Rat) : mxL [x, x, y, y] 3 = mxQ x y := by
  have e : mxL [x, x, y, y] 3 = if (if (if x < x then x else x) < y then y else (if x < x then x else x)) < y then y else (if (if x < x then x else x) < y then y else (if x < x then x else x)) := rfl
  rw [e, if_neg (Rat.lt_irrefl (a := x))]
  unfold mxQ
  by_cases h : x < y
  · rw [if_pos h, if_neg (Rat.lt_irrefl (a := y)), if_neg (Rat.not_le.2 h)]
  · rw [if_neg h, if_neg h, if_pos (Rat.not_lt.1 h)]


end Go.Proofs.Ytkfekkhhfpkfaaa
/-
  Law 07: what the laws over spans share: short pairs, spans by letters.
-/
namespace Go.Proofs.Ytkfekkhhfpkfaaa
open Go.RowKit Dg
attribute [local go_sem ↓] Go.wp_at_zero Go.wp_at_succ

theorem rowsF2 {w : World} {g : Nat} {T : TypeId} {n1 d1 n2 d2 : Int} (h : Bx w g T #[.int .i64 n1, .int .i64 d1, .int .i64 n2, .int .i64 d2]) : RowsI 2 FC w (.slice (some ⟨g, 0, none⟩) 2 2) [(n1, d1), (n2, d2)] := by
  refine ⟨_, 2, rfl, Nat.le_refl _, by decide, (fun e => by cases e), fun i x hx => ?_⟩
  match i, hx with
  | 0, hx => cases hx; exact ⟨g, 0, [_, _], rfl, rfl, (fun j u hu => by match j, hu with | 0, hu => cases hu; exact h.at 0 rfl | 1, hu => cases hu; exact h.at 1 rfl), rfl⟩
  | 1, hx => cases hx; exact ⟨g, 0, [_, _], rfl, rfl, (fun j u hu => by match j, hu with | 0, hu => cases hu; exact h.at 2 rfl | 1, hu => cases hu; exact h.at 3 rfl), rfl⟩
theorem short2 {x y : Int × Int} (h : [x, y].all shortF = true) : shortF x = true ∧ shortF y = true := by simpa using h
theorem short_sz {x : Int × Int} (h : shortF x = true) (o : DOk x) : SzQ 1 (fracQ x.1 x.2) := by
  obtain ⟨n, d⟩ := x
  obtain ⟨b1, b2, b3, b4⟩ := o
  simp only [shortF, Bool.not_eq_true', Bool.or_eq_false_iff, decide_eq_false_iff_not] at h
  dsimp only at b1 b2 b3 b4
  exact szQ_fracQ (by omega) (by omega)
theorem list_sz {l : List (Int × Int)} (h : l.all shortF = true) (ok : ∀ x ∈ l, DOk x) : ∀ i, i < (l.map frF).length → SzQ 1 (nthQ (l.map frF) i) := fun i hi => by
  obtain ⟨x, hx, e⟩ := List.mem_map.1 (List.mem_of_getElem? (nthQ_some hi))
  rw [← e]
  exact short_sz (List.all_eq_true.1 h _ hx) (ok _ hx)
/-- The ends of the span of two numbers. -/
def spLo (n1 d1 n2 d2 : Int) : Rat := mnQ (fracQ n1 d1) (fracQ n2 d2)
def spHi (n1 d1 n2 d2 : Int) : Rat := mxQ (fracQ n1 d1) (fracQ n2 d2)
theorem sp_sz {n1 d1 n2 d2 : Int} (h : [(n1, d1), (n2, d2)].all shortF = true) (o1 : DOk (n1, d1)) (o2 : DOk (n2, d2)) : SzQ 1 (spLo n1 d1 n2 d2) ∧ SzQ 1 (spHi n1 d1 n2 d2) :=
  ⟨mnQ_sz (short_sz (short2 h).1 o1) (short_sz (short2 h).2 o2), mxQ_sz (short_sz (short2 h).1 o1) (short_sz (short2 h).2 o2)⟩
end Go.Proofs.Ytkfekkhhfpkfaaa
/-
  Law 07: same: the program's range is the reference's one.
-/
namespace Go.Proofs.Ytkfekkhhfpkfaaa
open Go.RowKit Dg
attribute [local go_sem ↓] Go.wp_at_zero Go.wp_at_succ

end Go.Proofs.Ytkfekkhhfpkfaaa
