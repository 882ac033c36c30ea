/-
  The contracts of the reference's fractions, third part: Zero, Sign, Neg, Abs, magnitude, Int, New, Of, Sub, Cmp, Same, Div, Text.
-/
import Derived.Test.YtkfekkhhfpkfaaaRefRat2
import Derived.StillTailTactics
set_option linter.unusedSimpArgs false
set_option linter.unusedVariables false
namespace Go.Proofs.Ytkfekkhhfpkfaaa
open Go.RowKit Dg
attribute [local go_sem ↓] Go.wp_at_zero Go.wp_at_succ

/-- The sign of a fraction: -1, 0 or 1. -/
def sgQ (q : Rat) : Int := if q.num < 0 then -1 else if q.num = 0 then 0 else 1



theorem RV.parts {w : World} {s : Bool} {v1 v2 : Value} {q : Rat} (h : RV w (.agg #[.bool s, v1, v2]) q) : ∃ d, s = ng q ∧ NatV .u32 4294967296 w v1 q.num.natAbs ∧ NatV .u32 4294967296 w v2 d ∧ (d = q.den ∨ d = 0 ∧ q.den = 1) := by
  obtain ⟨vn, vd, d, e, h1, h2, hd⟩ := h
  simp only [Value.agg.injEq, Array.mk.injEq, List.cons.injEq, Value.bool.injEq] at e
  obtain ⟨rfl, rfl, rfl, _⟩ := e
  exact ⟨d, rfl, h1, h2, hd⟩

theorem RV.neg {w : World} {b s : Bool} {v1 v2 : Value} {q : Rat} (h : RV w (.agg #[.bool b, v1, v2]) q) (hs : s = (!b && decide (q ≠ 0))) : RV w (.agg #[.bool s, v1, v2]) (-q) := by
  obtain ⟨d, rfl, h1, h2, hd⟩ := h.parts
  subst hs
  rw [← ng_neg]
  exact ⟨v1, v2, d, rfl, by rw [Rat.neg_num, Int.natAbs_neg]; exact h1, h2, by rw [Rat.neg_den]; exact hd⟩

/-- The absolute value. -/
def absQ (q : Rat) : Rat := if ng q then -q else q

theorem RV.abs {w : World} {b : Bool} {v1 v2 : Value} {q : Rat} (h : RV w (.agg #[.bool b, v1, v2]) q) : RV w (.agg #[.bool false, v1, v2]) (absQ q) := by
  unfold absQ
  by_cases hn : ng q = true
  · rw [if_pos hn]
    exact h.neg (by obtain ⟨_, e, _⟩ := h.parts; rw [e, hn]; rfl)
  · rw [if_neg hn]
    obtain ⟨_, e, _⟩ := h.parts
    rw [Bool.not_eq_true] at hn
    rw [e, hn] at h
    exact h

set_option maxRecDepth 100000 in
theorem ret_R0 {fn : Func} {p : Tmp} {w0 w : World} {g : Nat} {q : Rat} {s : Bool} {v1 v2 : Value} {a : Act} (hr : fn.results = #[.cell p 64]) (ha : a.tmps.getD p undef = .pointer (some ⟨g, 0, none⟩)) (hdef : a.defers = [])
    (hbox : Box3 w g (.bool s) v1 v2) (h : RV w (.agg #[.bool s, v1, v2]) q) (hb : Below w0.heap.size w0 w) : bodyPost Try.prog fn (RetQ w0 q) .ret a w := by
  refine bodyPost_ret (v := .agg #[.bool s, v1, v2]) ?_ hdef ⟨_, rfl, h, hb⟩
  rw [results_cell1 hr, ha]
  exact load_R hbox



end Go.Proofs.Ytkfekkhhfpkfaaa
