/-
  Law 07: ScanEchoes, its sample apart: the echoes of light layers, of the program and of the reference.
-/
import Derived.Test.YtkfekkhhfpkfaaaGreatLawD
import Derived.Test.YtkfekkhhfpkfaaaGreatEcho2
import Derived.Test.YtkfekkhhfpkfaaaGreatRef7Echo2
set_option linter.unusedSimpArgs false
set_option linter.unusedVariables false
namespace Go.Proofs.YtkfekkhhfpkfaaaGreat
open Go.RowKit Dg
attribute [local go_sem ↓] Go.wp_at_zero Go.wp_at_succ

/-- The echoes of layers, none where there is an error; the error's number. -/
def resE (l : List Lay) : List (Rat × Rat) := if l.length < 2 ∨ 12 < l.length then [] else if l.all layPos = true then echoQ l (l.length - 1) else []
def resC (l : List Lay) : Int := if l.length < 2 ∨ 12 < l.length then 4 else if l.all layPos = true then 0 else 1
theorem sc_Echoes_all (v : Value) (l : List Lay) (B : Nat) (w : World) (hl : Rows 9 120 (C3 PC) w v l) (hB : B ≤ 1000) (hz : ∀ x ∈ l, LaySz B x) :
    Calls Tryz.prog 49 #[v] w (Ret2 (fun w v => Rows 6 123 (C2 PC) w v (resE l)) (fun _ v => v = .int .i64 (resC l)) w) := by
  by_cases h : l.length < 2 ∨ 12 < l.length
  · rw [show resE l = [] from if_pos h, show resC l = 4 from if_pos h]
    refine (sc_Echoes_size v l w hl h).mono ?_
    rintro e w' ⟨rfl, hb⟩
    exact ⟨_, _, rfl, Rows.nil_ _, rfl, hb⟩
  · by_cases hp : l.all layPos = true
    · rw [show resE l = echoQ l (l.length - 1) by unfold resE; rw [if_neg h, if_pos hp], show resC l = 0 by unfold resC; rw [if_neg h, if_pos hp]]
      exact sc_Echoes_ok v l B w hl (by omega) (by omega) hp hB hz
    · rw [show resE l = [] by unfold resE; rw [if_neg h, if_neg hp], show resC l = 1 by unfold resC; rw [if_neg h, if_neg hp]]
      refine (sc_Echoes_pos v l w hl (by omega) (by omega) (by simpa using hp)).mono ?_
      rintro e w' ⟨rfl, hb⟩
      exact ⟨_, _, rfl, Rows.nil_ _, rfl, hb⟩
theorem resE_fit (l : List Lay) (B : Nat) (hB : B ≤ 1000) (hz : ∀ x ∈ l, LaySz B x) : ∀ x ∈ resE l, Fit x.1 ∧ Fit x.2 := by
  intro x hx
  unfold resE at hx
  split at hx
  · cases hx
  · split at hx
    · rename_i h hp
      obtain ⟨h1, h2⟩ := echo_sz hz (List.all_eq_true.1 hp) hB (by omega) x hx
      exact ⟨h1.fit, h2.fit⟩
    · cases hx
theorem lay_sz (x : DL) (h : lightF x = true) : LaySz 1 (layF x) := by
  obtain ⟨⟨n1, d1⟩, ⟨n2, d2⟩, ⟨n3, d3⟩⟩ := x
  simp only [lightF, shortF, List.all_cons, List.all_nil, Bool.and_true, Bool.and_eq_true, Bool.not_eq_true', Bool.or_eq_false_iff, decide_eq_false_iff_not] at h
  obtain ⟨⟨a1, a2, a3⟩, ⟨b1, b2, b3⟩, ⟨c1, c2, c3⟩⟩ := h
  show SzQ 1 (fracQ n1 d1) ∧ SzQ 1 (fracQ n2 d2) ∧ SzQ 1 (fracQ n3 d3)
  exact ⟨szQ_fracQ (by omega) (by omega), szQ_fracQ (by omega) (by omega), szQ_fracQ (by omega) (by omega)⟩
theorem C2.openR {w : World} {cs : List Value} {x : Rat × Rat} (h : C2 RC w cs x) : ∃ g1 a1 n1 c1 A1 N1 D1 g2 a2 n2 c2 A2 N2 D2,
    cs = [.bool g1, .slice a1 n1 c1, .slice A1 N1 D1, .bool g2, .slice a2 n2 c2, .slice A2 N2 D2] ∧ RV w (.agg #[.bool g1, .slice a1 n1 c1, .slice A1 N1 D1]) x.1 ∧ RV w (.agg #[.bool g2, .slice a2 n2 c2, .slice A2 N2 D2]) x.2 := by
  obtain ⟨_, _, rfl, ⟨p1, p2, p3, rfl, h1⟩, ⟨q1, q2, q3, rfl, h2⟩⟩ := h
  obtain ⟨g1, a1, n1, c1, A1, N1, D1, e⟩ := h1.shape
  obtain ⟨rfl, rfl, rfl⟩ := agg3 e
  obtain ⟨g2, a2, n2, c2, A2, N2, D2, e⟩ := h2.shape
  obtain ⟨rfl, rfl, rfl⟩ := agg3 e
  exact ⟨_, _, _, _, _, _, _, _, _, _, _, _, _, _, rfl, h1, h2⟩

end Go.Proofs.YtkfekkhhfpkfaaaGreat
