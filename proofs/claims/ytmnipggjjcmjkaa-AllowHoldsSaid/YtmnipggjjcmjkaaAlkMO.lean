/-
  Maps of sums, as alike keeps them: what they read as, before, during and behind a range over one of them. No function of the program is walked here.
-/
import Derived.Test.YtmnipggjjcmjkaaAlk0O
import Derived.Test.YtmnipggjjcmjkaaPkAlBO
import Derived.Maps.RangeWalk
import Derived.Maps.OwnOps
import Derived.Maps.Ext
import Derived.Carry
set_option linter.unusedSimpArgs false
set_option linter.unusedVariables false
namespace Go.Proofs.Ytmnipggjjcmjkaa
open Go Go.Maps Go.RowKit Dg
section
variable {H : Type}
def Rd (D : DataW H) (f : Int → Nat) : Prop := IsMap D ∧ ∀ s, (has D (.int .i64 s) = true → (∀ z, D.atKey (.int .i64 s) z = .lit (.int .i64 (f s))) ∧ 0 < f s) ∧ (has D (.int .i64 s) = false → f s = 0)
theorem Rd.nil : Rd (.map [] : DataW H) (fun _ => 0) := ⟨isMap_empty, fun _ => ⟨(fun h => Bool.noConfusion (h : false = true)), (fun _ => rfl)⟩⟩
theorem Rd.put {D : DataW H} {f : Int → Nat} (h : Rd D f) (x : Int) {c : Nat} (hc : 0 < c) : Rd (D.put (.int .i64 x) (.lit (.int .i64 (c : Int)))) (fun s => if s = x then c else f s) := by
  refine ⟨h.1.put _ _, fun s => ?_⟩
  by_cases e : s = x
  · subst e
    dsimp only
    rw [if_pos rfl]
    have hk : WideAt.IsKeyLit (Lit.int .i64 s) := trivial
    exact ⟨fun _ => ⟨fun z => atKey_put_same h.1 hk _ z, hc⟩, fun h0 => by rw [has_put_same h.1 hk] at h0; cases h0⟩
  · have hne : Lit.int .i64 s ≠ Lit.int .i64 x := fun e' => e (by injection e')
    dsimp only
    rw [if_neg e, has_put_other hne]
    obtain ⟨a, b⟩ := h.2 s
    exact ⟨fun h1 => ⟨fun z => by rw [atKey_put_other hne]; exact (a h1).1 z, (a h1).2⟩, b⟩
theorem Rd.look {D : DataW H} {f : Int → Nat} (h : Rd D f) {s c : Int} (hc : D.atKey (.int .i64 s) (.lit (.int .i64 0)) = .lit (.int .i64 c)) : c = f s := by
  obtain ⟨a, b⟩ := h.2 s
  cases e : has D (.int .i64 s)
  · rw [atKey_of_not_has e] at hc
    injection hc with hc; injection hc with _ hc
    rw [b e]; omega
  · rw [(a e).1] at hc
    injection hc with hc; injection hc with _ hc
    omega
end
structure Btw (B t : Nat) (w w' : World) : Prop where
  os : w'.os = w.os
  tape : w'.tape = w.tape
  output : w'.output = w.output
  size : w.heap.size ≤ w'.heap.size
  block : ∀ k, k < B → k ≠ t → w'.heap[k]? = w.heap[k]?
theorem Btw.refl (B t : Nat) (w : World) : Btw B t w w := ⟨rfl, rfl, rfl, Nat.le_refl _, fun _ _ _ => rfl⟩
theorem Btw.trans {B t : Nat} {a b c : World} (h : Btw B t a b) (k : Btw B t b c) : Btw B t a c := ⟨k.os.trans h.os, k.tape.trans h.tape, k.output.trans h.output, Nat.le_trans h.size k.size, fun i hi hn => (k.block i hi hn).trans (h.block i hi hn)⟩
theorem Btw.below {B t : Nat} {w w' : World} (h : Btw B t w w') {B' : Nat} (h1 : B' ≤ B) (h2 : B' ≤ t) : Below B' w w' := ⟨h.os, h.tape, h.output, h.size, fun i hi => h.block i (by omega) (by omega)⟩
theorem Btw.cell {B t : Nat} {w w' : World} (h : Btw B t w w') {a : Addr} (h1 : a.block < B) (h2 : a.block ≠ t) : w'.cell? a = w.cell? a := World.cell?_of_block (h.block _ h1 h2)
theorem Btw.grown {B t : Nat} {w w' : World} (h : Btw B t w w') {b : Nat} (h1 : b < B) (h2 : b ≠ t) : w'.heap[b]? = w.heap[b]? := h.block b h1 h2
end Go.Proofs.Ytmnipggjjcmjkaa
