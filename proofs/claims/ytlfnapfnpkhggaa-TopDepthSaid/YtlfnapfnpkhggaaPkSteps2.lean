/-
  Law 07: the closure 'step' of ScanBetween: a number of a range, by a part of 255.
-/
import Derived.Test.YtlfnapfnpkhggaaRangeP
import Derived.Test.YtlfnapfnpkhggaaPkTab
import Derived.Test.YtlfnapfnpkhggaaPkHeld
import Derived.Test.YtlfnapfnpkhggaaSteps
set_option linter.unusedSimpArgs false
set_option linter.unusedVariables false
namespace Go.Proofs.Ytlfnapfnpkhggaa
open Go.RowKit Dg
attribute [local go_sem ↓] Go.wp_at_zero Go.wp_at_succ

theorem p_New_part {p : Int} {f : Rat} (w : World) (h0 : 0 ≤ p) (h1 : p ≤ 255) (hf : (p : Rat) / ((255 : Int) : Rat) = f) : Calls Try.prog 10 #[.int .i64 p, .int .i64 255] w (RetPE w f 0) := by
  subst hf
  exact p_New_calls p 255 w (by omega) (by omega) (by omega) (by omega) (by omega)
theorem part_sz {p : Int} {f : Rat} (h0 : 0 ≤ p) (h1 : p ≤ 255) (hf : (p : Rat) / ((255 : Int) : Rat) = f) : SzQ 1 f := hf ▸ szQ_frac (by omega) (by decide) (by decide)
theorem part_bd {p : Int} {f : Rat} (h0 : 0 ≤ p) (h1 : p ≤ 255) (hf : (p : Rat) / ((255 : Int) : Rat) = f) : 0 ≤ f ∧ f ≤ 1 := by
  have a0 : (0 : Rat) ≤ (p : Rat) := Rat.intCast_nonneg.2 h0
  have a1 : (p : Rat) ≤ ((255 : Int) : Rat) := Rat.intCast_le_intCast.2 h1
  have h : (0 : Rat) < ((255 : Int) : Rat) := by decide +kernel
  subst hf
  constructor
  · refine Rat.not_lt.1 fun hc => ?_
    rw [Rat.div_lt_iff h] at hc
    grind
  · refine Rat.not_lt.1 fun hc => ?_
    rw [Rat.lt_div_iff h] at hc
    grind

end Go.Proofs.Ytlfnapfnpkhggaa
/-
  scan's tables: Value, Porosity, over checkSteps and value.
-/
namespace Go.Proofs.Ytlfnapfnpkhggaa
open Go.RowKit Dg
attribute [local go_sem ↓] Go.wp_at_zero Go.wp_at_succ

/-- What Value hands back. -/
def fullV (T : List Stp) (x : Rat) : Rat × Int := if tabE T = 0 then valQ T x else (0, tabE T)




/-- What Porosity hands back. -/
def porQ (T : List Stp) (lo hi : Rat) : Rat × Rat × Int :=
  if tabE T = 0 then (if risB T T.length = false then (0, 0, 7) else if (valQ T lo).2 = 0 then (if (valQ T hi).2 = 0 then ((valQ T lo).1, (valQ T hi).1, 0) else (0, 0, 5)) else (0, 0, 5)) else (0, 0, tabE T)
theorem porQ_fall {T : List Stp} {lo hi : Rat} (h : tabE T = 0) (h1 : risB T T.length = false) : porQ T lo hi = (0, 0, 7) := by unfold porQ; rw [if_pos h, if_pos h1]
theorem porQ_lo {T : List Stp} {lo hi q : Rat} {c : Int} (h : tabE T = 0) (h1 : risB T T.length = true) (h2 : valQ T lo = (q, c)) (h3 : ¬ c = 0) : porQ T lo hi = (0, 0, c) := by
  have h4 : (0, 5) = (q, c) := by
    rcases valQ_err T lo with e | e
    · rw [h2] at e; exact absurd e h3
    · rw [← e, h2]
  cases h4
  unfold porQ; rw [if_pos h, if_neg (by rw [h1]; simp), h2, if_neg h3]
theorem porQ_hi {T : List Stp} {lo hi q r : Rat} {c d : Int} (h : tabE T = 0) (h1 : risB T T.length = true) (h2 : valQ T lo = (q, c)) (h3 : c = 0) (h4 : valQ T hi = (r, d)) (h5 : ¬ d = 0) : porQ T lo hi = (0, 0, d) := by
  have h6 : (0, 5) = (r, d) := by
    rcases valQ_err T hi with e | e
    · rw [h4] at e; exact absurd e h5
    · rw [← e, h4]
  cases h6
  unfold porQ; rw [if_pos h, if_neg (by rw [h1]; simp), h2, if_pos h3, h4, if_neg h5]
theorem porQ_ok {T : List Stp} {lo hi q r : Rat} {c d : Int} (h : tabE T = 0) (h1 : risB T T.length = true) (h2 : valQ T lo = (q, c)) (h3 : c = 0) (h4 : valQ T hi = (r, d)) (h5 : d = 0) : porQ T lo hi = (q, r, 0) := by
  unfold porQ; rw [if_pos h, if_neg (by rw [h1]; simp), h2, if_pos h3, h4, if_pos h5]
theorem por_le {T : List Stp} {lo hi q r : Rat} {c d : Int} (h : tabE T = 0) (h1 : risB T T.length = true) (h2 : valQ T lo = (q, c)) (h3 : c = 0) (h4 : valQ T hi = (r, d)) (h5 : d = 0) (hle : lo ≤ hi) : q ≤ r := by
  have := valQ_mono (ascB_asc _ (tabE_ok h).2.2) (risB_ris _ h1) (by rw [h2]; exact h3) (by rw [h4]; exact h5) hle
  rwa [h2, h4] at this



end Go.Proofs.Ytlfnapfnpkhggaa
