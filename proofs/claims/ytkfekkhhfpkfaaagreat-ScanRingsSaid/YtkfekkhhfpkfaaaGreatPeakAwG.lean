/-
  scan.Peak at the sample that each law of layer 7 asks first.
-/
import Derived.Test.YtkfekkhhfpkfaaaGreatPkPeakG
import Derived.Test.YtkfekkhhfpkfaaaGreatPkLawFG
set_option linter.unusedSimpArgs false
set_option linter.unusedVariables false
namespace Go.Proofs.YtkfekkhhfpkfaaaGreat
open Go.RowKit Dg
def awP : List (Nat × Rat) := [(0, 0), (1065353216, 1), (3225419776, -3), (1077936128, 3), (1073741824, 2)]
theorem awP_ok : ∀ x ∈ awP, FlOk x := by
  intro x hx
  simp only [awP, List.mem_cons, List.mem_nil_iff, or_false] at hx
  rcases hx with rfl | rfl | rfl | rfl | rfl
  · exact ⟨_, wide_z, float_z⟩
  · exact ⟨_, wide_p1, float_p1⟩
  · exact ⟨_, wide_m3, float_m3⟩
  · exact ⟨_, wide_p3, float_p3⟩
  · exact ⟨_, wide_p2, float_p2⟩
theorem awP_fit : ∀ x ∈ awP, Fit x.2 := by
  intro x hx
  simp only [awP, List.mem_cons, List.mem_nil_iff, or_false] at hx
  rcases hx with rfl | rfl | rfl | rfl | rfl
  · exact (szQ_int (n := 0) (by decide)).fit
  · exact (szQ_int (n := 1) (by decide)).fit
  · exact (szQ_int (n := -3) (by decide)).fit
  · exact (szQ_int (n := 3) (by decide)).fit
  · exact (szQ_int (n := 2) (by decide)).fit
theorem awP_n : pkN (awP.map Prod.snd) 0 5 1 = 2 := by decide +kernel
theorem awP_v : pkV (awP.map Prod.snd) 0 5 1 = 3 := by decide +kernel
theorem awP_e : pkE (awP.map Prod.snd) 0 5 1 = 0 := by decide +kernel
theorem peak_ok : PeakOk := by
  intro g w hB
  have hr : Rows 1 45 F32 w (.slice (some ⟨g, 0, none⟩) 5 5) awP := by
    refine Rows.ofBx (l := awP) hB [[.float .f32 0], [.float .f32 1065353216], [.float .f32 3225419776], [.float .f32 1077936128], [.float .f32 1073741824]] rfl ?_ rfl (by decide) ?_
    · intro c hc
      simp only [List.mem_cons, List.mem_nil_iff, or_false] at hc
      rcases hc with rfl | rfl | rfl | rfl | rfl <;> rfl
    · intro i c x hc hx
      match i, hc, hx with
      | 0, hc, hx => cases hc; cases hx; rfl
      | 1, hc, hx => cases hc; cases hx; rfl
      | 2, hc, hx => cases hc; cases hx; rfl
      | 3, hc, hx => cases hc; cases hx; rfl
      | 4, hc, hx => cases hc; cases hx; rfl
  refine (sc_Peak_ok _ awP 0 5 (1065353216, 1) w hr.toI (by decide) awP_ok ⟨_, wide_p1, float_p1⟩ (by decide) (by decide) sc_check_ok awP_fit (szQ_int (n := 1) (by decide)).fit).mono ?_
  rintro e w' ⟨_, v2, _, rfl, rfl, h2, rfl, hb⟩
  exact ⟨v2, by rw [awP_n, awP_e], h2.of_eq awP_v, hb⟩
end Go.Proofs.YtkfekkhhfpkfaaaGreat
