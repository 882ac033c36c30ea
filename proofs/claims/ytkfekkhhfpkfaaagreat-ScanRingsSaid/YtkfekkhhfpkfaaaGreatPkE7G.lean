/-
  The contract of the reference's Echoes.
-/
import Derived.Test.YtkfekkhhfpkfaaaGreatPkScanG
import Derived.Test.YtkfekkhhfpkfaaaGreatPkOpsG
import Derived.Test.YtkfekkhhfpkfaaaGreatPkHeldG
set_option linter.unusedSimpArgs false
set_option linter.unusedVariables false
namespace Go.Proofs.YtkfekkhhfpkfaaaGreat
open Go.RowKit Dg
attribute [local go_sem ↓] Go.wp_at_zero Go.wp_at_succ
theorem layPos_take (l : List Lay) (k : Nat) (x : Lay) (h : l[k]? = some x) (ht : (l.take k).all layPos = true) : (l.take (k + 1)).all layPos = layPos x := by
 have hk : k < l.length := (List.getElem?_eq_some_iff.1 h).1
 have hx : l[k] = x := (List.getElem?_eq_some_iff.1 h).2
 rw [List.take_succ_eq_append_getElem hk, List.all_append, ht, hx]
 simp
theorem layPos_false (l : List Lay) (k : Nat) (h : (l.take k).all layPos = false) : l.all layPos = false := by
 rw [List.all_eq_false] at *
 obtain ⟨x, hx, h⟩ := h
 exact ⟨x, List.mem_of_mem_take hx, h⟩
theorem C3.open_ {w : World} {cs : List Value} {x : Lay} (h : C3 RC w cs x) : ∃ g1 a1 n1 c1 A1 N1 D1 g2 a2 n2 c2 A2 N2 D2 g3 a3 n3 c3 A3 N3 D3,
  cs = [.bool g1, .slice a1 n1 c1, .slice A1 N1 D1, .bool g2, .slice a2 n2 c2, .slice A2 N2 D2, .bool g3, .slice a3 n3 c3, .slice A3 N3 D3] ∧
  RV w (.agg #[.bool g1, .slice a1 n1 c1, .slice A1 N1 D1]) x.1 ∧ RV w (.agg #[.bool g2, .slice a2 n2 c2, .slice A2 N2 D2]) x.2.1 ∧ RV w (.agg #[.bool g3, .slice a3 n3 c3, .slice A3 N3 D3]) x.2.2 := by
 obtain ⟨_, _, _, rfl, ⟨p1, p2, p3, rfl, h1⟩, ⟨q1, q2, q3, rfl, h2⟩, ⟨r1, r2, r3, rfl, h3⟩⟩ := h
 obtain ⟨g1, a1, n1, c1, A1, N1, D1, e⟩ := h1.shape
 obtain ⟨rfl, rfl, rfl⟩ := agg3 e
 obtain ⟨g2, a2, n2, c2, A2, N2, D2, e⟩ := h2.shape
 obtain ⟨rfl, rfl, rfl⟩ := agg3 e
 obtain ⟨g3, a3, n3, c3, A3, N3, D3, e⟩ := h3.shape
 obtain ⟨rfl, rfl, rfl⟩ := agg3 e
 exact ⟨_, _, _, _, _, _, _, _, _, _, _, _, _, _, _, _, _, _, _, _, _, rfl, h1, h2, h3⟩
end Go.Proofs.YtkfekkhhfpkfaaaGreat
namespace Go.Proofs.YtkfekkhhfpkfaaaGreat
open Go.RowKit Dg
attribute [local go_sem ↓] Go.wp_at_zero Go.wp_at_succ
end Go.Proofs.YtkfekkhhfpkfaaaGreat
