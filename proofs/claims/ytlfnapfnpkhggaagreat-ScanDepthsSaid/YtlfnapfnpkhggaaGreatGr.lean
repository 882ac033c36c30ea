/-
  One world behind another one: all blocks but some lie as they lay, more may have come. No function of the program is in sight here.
-/
import Derived.Test.YtlfnapfnpkhggaaGreatPkMem
set_option linter.unusedSimpArgs false
set_option linter.unusedVariables false
namespace Go.Proofs.YtlfnapfnpkhggaaGreat
open Go.RowKit Dg

/-- Behind stores into the blocks gs, new blocks, draws. -/
structure Gr (gs : List Nat) (w w' : World) : Prop where
  os : w'.os = w.os
  tape : w'.tape = w.tape
  output : w'.output = w.output
  size : w.heap.size ≤ w'.heap.size
  block : ∀ k, k < w.heap.size → k ∉ gs → w'.heap[k]? = w.heap[k]?
/-- The blocks gs hold no digits of numbers. -/
def NoD (w : World) : List Nat → Prop
  | [] => True
  | g :: r => (∃ T, TyB T w g ∧ (T ≠ 142 ∧ T ≠ 66)) ∧ NoD w r
theorem NoD.get {w : World} : ∀ {gs : List Nat}, NoD w gs → ∀ g ∈ gs, ∃ T, TyB T w g ∧ (T ≠ 142 ∧ T ≠ 66)
  | _ :: _, h, g, hg => by
    rcases List.mem_cons.1 hg with rfl | hg
    · exact h.1
    · exact NoD.get h.2 g hg
section
variable {gs : List Nat} {a w : World}
theorem Gr.refl (gs : List Nat) (w : World) : Gr gs w w := ⟨rfl, rfl, rfl, Nat.le_refl _, fun _ _ _ => rfl⟩
theorem Gr.set (h : Gr gs a w) {p : Addr} {u : Value} (hp : p.block ∈ gs := by first | exact .head _ | exact .tail _ (.head _) | exact .tail _ (.tail _ (.head _))) : Gr gs a (w.setCell p u) :=
  ⟨h.os, h.tape, h.output, by simpa [World.setCell] using h.size, fun k hk hn => (Below.heap_setCell _ _ _ _ (fun e => hn (by rw [e]; exact hp))).trans (h.block k hk hn)⟩
theorem Gr.alloc (h : Gr gs a w) {o : Obj} : Gr gs a (w.alloc o) :=
  ⟨h.os, h.tape, h.output, by have := h.size; simp; omega, fun k hk hn => (Below.heap_alloc _ _ _ (by have := h.size; omega)).trans (h.block k hk hn)⟩
theorem Gr.drew (h : Gr gs a w) : Gr gs a w.drew := ⟨h.os, h.tape, h.output, h.size, h.block⟩
theorem Gr.below {B : Nat} (h : Gr gs a w) (hB : B ≤ a.heap.size) (hg : ∀ g ∈ gs, B ≤ g) : Below B a w :=
  ⟨h.os, h.tape, h.output, h.size, fun k hk => h.block k (by omega) (fun hm => by have := hg k hm; omega)⟩
theorem Gr.below0 {B : Nat} (h : Gr [] a w) (hB : B ≤ a.heap.size) : Below B a w := h.below hB (fun _ hg => by cases hg)
theorem Gr.below1 {B g : Nat} (h : Gr [g] a w) (hB : B ≤ a.heap.size) (h1 : B ≤ g) : Below B a w := h.below hB (fun x hx => by cases hx with | head => exact h1 | tail _ h => cases h)
theorem Gr.below2 {B g g' : Nat} (h : Gr [g, g'] a w) (hB : B ≤ a.heap.size) (h1 : B ≤ g) (h2 : B ≤ g') : Below B a w := h.below hB (fun x hx => by
  cases hx with
  | head => exact h1
  | tail _ h => cases h with
    | head => exact h2
    | tail _ h => cases h)
theorem Gr.keep (h : Gr gs a w) (hd : NoD a gs) : KeepD a w :=
  ⟨h.size, fun k t hk ht => h.block k hk.lt (fun hm => by
    obtain ⟨T, hT, h1, h2⟩ := hd.get k hm
    rcases ht with rfl | rfl
    · exact TyB.ne hT hk h1 rfl
    · exact TyB.ne hT hk h2 rfl)⟩
theorem Gr.bx {g : Nat} {t : TypeId} {cs : Array Value} (h : Gr gs a w) (hx : Bx a g t cs) (hn : g ∉ gs) : Bx w g t cs := (h.block g hx.lt hn).trans hx
theorem Gr.cell {p : Addr} {v : Value} (h : Gr gs a w) (hc : a.cell? p = some v) (hn : p.block ∉ gs) : w.cell? p = some v := (World.cell?_of_block (h.block p.block (cell_lt hc) hn)).trans hc
theorem Gr.onlyT {T : TypeId} (h : Gr gs a w) (hg : ∀ g ∈ gs, TyB T a g) : OnlyT T a w := ⟨h.size, fun k hk hn => h.block k hk (fun hm => hn (hg k hm))⟩
theorem notMem0 {k : Nat} : k ∉ ([] : List Nat) := fun h => by cases h
theorem notMem1 {k g : Nat} (h : k ≠ g) : k ∉ [g] := fun hm => by cases hm with | head => exact h rfl | tail _ h => cases h
theorem notMem2 {k g g' : Nat} (h : k ≠ g) (h' : k ≠ g') : k ∉ [g, g'] := fun hm => by
  cases hm with
  | head => exact h rfl
  | tail _ hm => cases hm with
    | head => exact h' rfl
    | tail _ hm => cases hm
end
/-- Three cells of a block, six cells, stored one after the other. -/
theorem Bx.set3 {w : World} {g : Nat} {t : TypeId} {a b c x y z : Value} (h : Bx w g t #[a, b, c]) : Bx (((w.setCell ⟨g, 0, none⟩ x).setCell ⟨g, 1, none⟩ y).setCell ⟨g, 2, none⟩ z) g t #[x, y, z] := ((h.set 0 _ rfl).set 1 _ rfl).set 2 _ rfl
theorem Bx.set6 {w : World} {g : Nat} {t : TypeId} {a b c d e f x y z u v s : Value} (h : Bx w g t #[a, b, c, d, e, f]) :
    Bx ((((((w.setCell ⟨g, 0, none⟩ x).setCell ⟨g, 1, none⟩ y).setCell ⟨g, 2, none⟩ z).setCell ⟨g, 3, none⟩ u).setCell ⟨g, 4, none⟩ v).setCell ⟨g, 5, none⟩ s) g t #[x, y, z, u, v, s] :=
  (((((h.set 0 _ rfl).set 1 _ rfl).set 2 _ rfl).set 3 _ rfl).set 4 _ rfl).set 5 _ rfl
theorem Bx.new0 (w : World) (t : TypeId) (cs : Array Value) {g : Nat} (hg : g = w.heap.size := by first | rfl | (simp; done)) : Bx (w.alloc (.cells cs t)) g t cs := Bx.new' w t cs g hg
end Go.Proofs.YtlfnapfnpkhggaaGreat
