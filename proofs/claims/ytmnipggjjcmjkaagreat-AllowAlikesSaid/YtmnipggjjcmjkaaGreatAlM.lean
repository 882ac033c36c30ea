/-
  The runs of a look-up, of a length, of a store of a new key: of a map of batches that has none, or just one, b1. No function of the program is walked here.
-/
import Derived.Test.YtmnipggjjcmjkaaGreatAlC
import Derived.MapKept
set_option linter.unusedSimpArgs false
set_option linter.unusedVariables false
namespace Go.Proofs.YtmnipggjjcmjkaaGreat
open Go.RowKit Dg Go.MapKept

theorem b1_key : IsKey .string (.string ⟨#[98, 49]⟩) := trivial
theorem map_look0 {w : World} {m c : Nat} (hm : w.heap[m]? = some (.map #[] c)) : (Instr.lookup 164 (.map (some m)) (.string ⟨#[98, 49]⟩) true).run Tryz.prog w = .ok (.tuple #[.agg #[.slice none 0 0, .bool false], .bool false]) w := by
  have h1 : (Instr.checkKey true 10000 9 (.string ⟨#[98, 49]⟩)).run Tryz.prog w = .ok () w := run_checkKey Tryz.underlying9 b1_key true 9999
  have h2 : (Instr.findKey 9 (.string ⟨#[98, 49]⟩) []).run Tryz.prog w = .ok none w := run_findKey Tryz.underlying9 rfl
  have h3 : (zeroValue 171).run Tryz.prog w = .ok (.agg #[.slice none 0 0, .bool false]) w := by kernel_rfl
  unfold Instr.lookup
  simp [run_underlying Tryz.underlying164, Go.MapKept.run_getObj_map hm, h1, h2, h3]
theorem map_look1 {w : World} {m c d : Nat} {x : Value} (hm : w.heap[m]? = some (.map #[⟨(.string ⟨#[98, 49]⟩), x, c⟩] d)) : (Instr.lookup 164 (.map (some m)) (.string ⟨#[98, 49]⟩) true).run Tryz.prog w = .ok (.tuple #[x, .bool true]) w := by
  have h1 : (Instr.checkKey false 10000 9 (.string ⟨#[98, 49]⟩)).run Tryz.prog w = .ok () w := run_checkKey Tryz.underlying9 b1_key false 9999
  have h2 : (Instr.findKey 9 (.string ⟨#[98, 49]⟩) [⟨(.string ⟨#[98, 49]⟩), x, c⟩]).run Tryz.prog w = .ok (some (0, x)) w := run_findKey Tryz.underlying9 rfl
  unfold Instr.lookup
  simp [run_underlying Tryz.underlying164, Go.MapKept.run_getObj_map hm, h1, h2]
theorem map_len0 {w : World} {m c : Nat} (hm : w.heap[m]? = some (.map #[] c)) (ty : TypeId) : (Builtin.len_ #[164] ty #[.map (some m)]).run Tryz.prog w = .ok (.int .i64 0) w := by
  unfold Builtin.len_
  simp [run_underlying Tryz.underlying164, Go.MapKept.run_getObj_map hm]
  rfl
theorem map_new {w : World} {m c : Nat} (hm : w.heap[m]? = some (.map #[] c)) (x : Value) : ∃ w', (Instr.mapUpdate 164 (.map (some m)) (.string ⟨#[98, 49]⟩) x).run Tryz.prog w = .ok () w' ∧ w'.heap[m]? = some (.map #[⟨(.string ⟨#[98, 49]⟩), x, c⟩] (c + 1)) ∧ Gr [m] w w' := by
  have h1 : (Instr.checkKey false 10000 9 (.string ⟨#[98, 49]⟩)).run Tryz.prog w = .ok () w := run_checkKey Tryz.underlying9 b1_key false 9999
  have h2 : (Instr.findKey 9 (.string ⟨#[98, 49]⟩) []).run Tryz.prog w = .ok none w := run_findKey Tryz.underlying9 rfl
  refine ⟨{ w with heap := w.heap.setIfInBounds m (.map #[⟨(.string ⟨#[98, 49]⟩), x, c⟩] (c + 1)) }, ?_, ?_, ⟨rfl, rfl, rfl, by simp, fun k hk hn => ?_⟩⟩
  · unfold Instr.mapUpdate
    simp [run_underlying Tryz.underlying164, Go.MapKept.run_getObj_map hm, h1, h2, run_setObj_map _ hm]
  · have := lt_of_block hm
    simp [this]
  · have : k ≠ m := fun e => hn (by rw [e]; exact .head _)
    simp [Array.getElem?_setIfInBounds, Ne.symm this]
end Go.Proofs.YtmnipggjjcmjkaaGreat
