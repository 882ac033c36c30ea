/-
  Law 07: ScanEchoes, its sample apart: the echoes of light layers, of the program and of the reference.
-/
import Derived.Test.YtkfekkhhfpkfaaaGreatPkLDQ
import Derived.Test.YtkfekkhhfpkfaaaGreatEcho2Q
import Derived.Test.YtkfekkhhfpkfaaaGreatPkE7Q
import Derived.Test.YtkfekkhhfpkfaaaGreatPkTrQ
import Derived.Test.YtkfekkhhfpkfaaaGreatPkReadQ
import Derived.OpenShut
import Derived.ChangeArms
import Derived.Laws.Cover2
import Derived.Lib.SmallJoins
set_option linter.unusedSimpArgs false
set_option linter.unusedVariables false
set_option maxRecDepth 100000
namespace Go.Proofs.YtkfekkhhfpkfaaaGreat
open Go.RowKit Dg
attribute [local go_sem ↓] Go.wp_at_zero Go.wp_at_succ
theorem C2.openR {w : World} {cs : List Value} {x : Rat × Rat} (h : C2 RC w cs x) : ∃ g1 a1 n1 c1 A1 N1 D1 g2 a2 n2 c2 A2 N2 D2,
  cs = [.bool g1, .slice a1 n1 c1, .slice A1 N1 D1, .bool g2, .slice a2 n2 c2, .slice A2 N2 D2] ∧ RV w (.agg #[.bool g1, .slice a1 n1 c1, .slice A1 N1 D1]) x.1 ∧ RV w (.agg #[.bool g2, .slice a2 n2 c2, .slice A2 N2 D2]) x.2 := by
 obtain ⟨_, _, rfl, ⟨p1, p2, p3, rfl, h1⟩, ⟨q1, q2, q3, rfl, h2⟩⟩ := h
 obtain ⟨g1, a1, n1, c1, A1, N1, D1, e⟩ := h1.shape
 obtain ⟨rfl, rfl, rfl⟩ := agg3 e
 obtain ⟨g2, a2, n2, c2, A2, N2, D2, e⟩ := h2.shape
 obtain ⟨rfl, rfl, rfl⟩ := agg3 e
 exact ⟨_, _, _, _, _, _, _, _, _, _, _, _, _, _, rfl, h1, h2⟩
end Go.Proofs.YtkfekkhhfpkfaaaGreat
namespace Go.Proofs.YtkfekkhhfpkfaaaGreat
open Go.RowKit Dg
attribute [local go_sem ↓] Go.wp_at_zero Go.wp_at_succ
attribute [local go_sem] run_store_float
end Go.Proofs.YtkfekkhhfpkfaaaGreat
namespace Go.Proofs.YtkfekkhhfpkfaaaGreat
open Go.RowKit Dg
attribute [local go_sem ↓] Go.wp_at_zero Go.wp_at_succ
attribute [local go_sem] run_store_float
end Go.Proofs.YtkfekkhhfpkfaaaGreat
namespace Go.Proofs.YtkfekkhhfpkfaaaGreat
open Go.RowKit Dg Go.ChangeShapes Go.WideShapes Go.Deep
section
variable {H : Type} {enc : TypeId × Value → H} {W : World} {base b0 : Nat} {spare : Nat → Bool} {held : Bool} {r : Reach}
def F32N (_ : World) (cs : List Value) (x : Nat) : Prop := cs = [.float .f32 x]
theorem trod_flt {P : Program} {k : FloatKind} {t : TypeId} {n : Nat} {cs : List Value} {x : DataW H × List MemPlace} (ht : P.underlying t = some (.float k)) (h : DataW.trod enc P W base spare held n t cs = some x) : ∃ b, cs = [.float k b] := by
  cases n with
  | zero => simp [DataW.trod] at h
  | succ n =>
    unfold DataW.trod at h
    rw [ht] at h
    split at h <;> simp_all
theorem trod_f32N {n : Nat} {cs : List Value} {x : DataW H × List MemPlace} (h : DataW.trod enc Tryz.prog W base spare held n 45 cs = some x) : ∃ y : Nat, F32N W cs y ∧ True := by
  obtain ⟨b, e⟩ := trod_flt Tryz.underlying45 h
  exact ⟨b, e, trivial⟩
theorem rows_f32 {w : World} {v : Value} {ys : List Nat} (h : RowsI 1 F32N w v ys) : RowsI 1 F32 w v (ys.map fun x => (x, flQ (cvF x))) := by
  obtain ⟨ao, c, e, h1, h2, h3, h4⟩ := h
  refine ⟨ao, c, by rw [List.length_map]; exact e, by rw [List.length_map]; exact h1, h2, h3, fun i x hx => ?_⟩
  rw [List.getElem?_map] at hx
  obtain ⟨y, hy, rfl⟩ := Option.map_eq_some_iff.1 hx
  exact h4 i y hy
theorem open_trace {v : Value} {d : DataW H} {p : List MemPlace} (hv : Value.okWide Tryz.prog W r b0 44 v) (h : DataW.Trod enc Tryz.prog W base spare held 44 v d p) : ∃ ys : List Nat, RowsI 1 F32 W v (ys.map fun x => (x, flQ (cvF x))) := by
  obtain ⟨ys, hy, -⟩ := rowsI_in (R := F32N) (Ok := fun _ => True) Tryz.underlying44 (show Tryz.prog.cellsOf 45 = 1 from by kernel_rfl) (fun n cs x hx => trod_f32N hx) hv h
  exact ⟨ys, rows_f32 hy⟩
end
end Go.Proofs.YtkfekkhhfpkfaaaGreat
