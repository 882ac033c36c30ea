/-
  Law 07's arguments, read: a trace, a gate, a float32.
-/
import Derived.Test.YtkfekkhhfpkfaaaGreatPkRead
import Derived.Test.YtkfekkhhfpkfaaaGreatLawPk
import Derived.OpenShut
import Derived.ChangeArms
import Derived.Laws.Cover2
import Derived.Lib.SmallJoins
set_option linter.unusedSimpArgs false
set_option linter.unusedVariables false
namespace Go.Proofs.YtkfekkhhfpkfaaaGreat
open Go.RowKit Dg Go.ChangeShapes Go.WideShapes Go.Deep

section
variable {H : Type} {enc : TypeId × Value → H} {W : World} {base b0 : Nat} {spare : Nat → Bool} {held : Bool} {r : Reach}
def F32N (_ : World) (cs : List Value) (x : Nat) : Prop := cs = [.float .f32 x]
theorem trod_flt {P : Program} {k : FloatKind} {t : TypeId} {n : Nat} {cs : List Value} {x : DataW H × List MemPlace} (ht : P.underlying t = some (.float k)) (h : DataW.trod enc P W base spare held n t cs = some x) : ∃ b, cs = [.float k b] := by
  cases n with
  | zero => simp [DataW.trod] at h
  | succ n =>
    unfold DataW.trod at h
    rw [ht] at h
    split at h <;> simp_all
set_option maxRecDepth 100000 in
theorem trod_f32N {n : Nat} {cs : List Value} {x : DataW H × List MemPlace} (h : DataW.trod enc Tryz.prog W base spare held n 45 cs = some x) : ∃ y : Nat, F32N W cs y ∧ True := by
  obtain ⟨b, e⟩ := trod_flt Tryz.underlying45 h
  exact ⟨b, e, trivial⟩
theorem rows_f32 {w : World} {v : Value} {ys : List Nat} (h : RowsI 1 F32N w v ys) : RowsI 1 F32 w v (ys.map fun x => (x, flQ (cvF x))) := by
  obtain ⟨ao, c, e, h1, h2, h3, h4⟩ := h
  refine ⟨ao, c, by rw [List.length_map]; exact e, by rw [List.length_map]; exact h1, h2, h3, fun i x hx => ?_⟩
  rw [List.getElem?_map] at hx
  obtain ⟨y, hy, rfl⟩ := Option.map_eq_some_iff.1 hx
  exact h4 i y hy
set_option maxRecDepth 100000 in
theorem open_trace {v : Value} {d : DataW H} {p : List MemPlace} (hv : Value.okWide Tryz.prog W r b0 44 v) (h : DataW.Trod enc Tryz.prog W base spare held 44 v d p) : ∃ ys : List Nat, RowsI 1 F32 W v (ys.map fun x => (x, flQ (cvF x))) := by
  obtain ⟨ys, hy, -⟩ := rowsI_in (R := F32N) (Ok := fun _ => True) Tryz.underlying44 (show Tryz.prog.cellsOf 45 = 1 from by kernel_rfl) (fun n cs x hx => trod_f32N hx) hv h
  exact ⟨ys, rows_f32 hy⟩
set_option maxRecDepth 100000 in
theorem open_gate {v : Value} {d : DataW H} {p : List MemPlace} (hv : Value.okWide Tryz.prog W r b0 47 v) (h : DataW.Trod enc Tryz.prog W base spare held 47 v d p) : ∃ (f t : Int) (lv : Nat), v = .agg #[.int .i64 f, .int .i64 t, .float .f32 lv] := by
  obtain ⟨v0, v1, v2, y0, y1, y2, n, rfl, -, -, h0, h1, h2⟩ := Go.Joins.open_agg3 Tryz.underlying47 (by kernel_rfl) (by kernel_rfl) hv h
  obtain ⟨f, e0, _, _⟩ := DataW.trod_int Tryz.underlying3 h0
  obtain ⟨t, e1, _, _⟩ := DataW.trod_int Tryz.underlying3 h1
  obtain ⟨lv, e2⟩ := trod_flt Tryz.underlying45 h2
  simp at e0 e1 e2
  exact ⟨f, t, lv, by rw [e0, e1, e2]⟩
end
end Go.Proofs.YtkfekkhhfpkfaaaGreat
