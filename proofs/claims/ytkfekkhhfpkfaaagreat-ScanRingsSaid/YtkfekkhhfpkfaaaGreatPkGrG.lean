/-
  One world behind another one: all blocks but some lie as they lay, more may have come. No function of the program is in sight here.
-/
import Derived.Test.YtkfekkhhfpkfaaaGreatPkMemG
import Derived.Test.YtkfekkhhfpkfaaaGreatPkOpsG
set_option linter.unusedSimpArgs false
set_option linter.unusedVariables false
namespace Go.Proofs.YtkfekkhhfpkfaaaGreat
open Go.RowKit Dg
structure Gr (gs : List Nat) (w w' : World) : Prop where
  os : w'.os = w.os
  tape : w'.tape = w.tape
  output : w'.output = w.output
  size : w.heap.size ≤ w'.heap.size
  block : ∀ k, k < w.heap.size → k ∉ gs → w'.heap[k]? = w.heap[k]?
def NoD (w : World) : List Nat → Prop
  | [] => True
  | g :: r => (∃ T, TyB T w g ∧ (T ≠ 108 ∧ T ≠ 62)) ∧ NoD w r
theorem NoD.get {w : World} : ∀ {gs : List Nat}, NoD w gs → ∀ g ∈ gs, ∃ T, TyB T w g ∧ (T ≠ 108 ∧ T ≠ 62)
  | _ :: _, h, g, hg => by
    rcases List.mem_cons.1 hg with rfl | hg
    · exact h.1
    · exact NoD.get h.2 g hg
section
variable {gs : List Nat} {a w : World}
theorem Gr.refl (gs : List Nat) (w : World) : Gr gs w w := ⟨rfl, rfl, rfl, Nat.le_refl _, fun _ _ _ => rfl⟩
theorem Gr.set (h : Gr gs a w) {p : Addr} {u : Value} (hp : p.block ∈ gs := by first | exact .head _ | exact .tail _ (.head _) | exact .tail _ (.tail _ (.head _))) : Gr gs a (w.setCell p u) :=
  ⟨h.os, h.tape, h.output, by simpa [World.setCell] using h.size, fun k hk hn => (Below.heap_setCell _ _ _ _ (fun e => hn (by rw [e]; exact hp))).trans (h.block k hk hn)⟩
theorem Gr.alloc (h : Gr gs a w) {o : Obj} : Gr gs a (w.alloc o) :=
  ⟨h.os, h.tape, h.output, by have := h.size; simp; omega, fun k hk hn => (Below.heap_alloc _ _ _ (by have := h.size; omega)).trans (h.block k hk hn)⟩
theorem Gr.drew (h : Gr gs a w) : Gr gs a w.drew := ⟨h.os, h.tape, h.output, h.size, h.block⟩
theorem Gr.below {B : Nat} (h : Gr gs a w) (hB : B ≤ a.heap.size) (hg : ∀ g ∈ gs, B ≤ g) : Below B a w :=
  ⟨h.os, h.tape, h.output, h.size, fun k hk => h.block k (by omega) (fun hm => by have := hg k hm; omega)⟩
theorem Gr.below0 {B : Nat} (h : Gr [] a w) (hB : B ≤ a.heap.size) : Below B a w := h.below hB (fun _ hg => by cases hg)
theorem Gr.below1 {B g : Nat} (h : Gr [g] a w) (hB : B ≤ a.heap.size) (h1 : B ≤ g) : Below B a w := h.below hB (fun x hx => by cases hx with | head => exact h1 | tail _ h => cases h)
theorem Gr.keep (h : Gr gs a w) (hd : NoD a gs) : KeepD a w :=
  ⟨h.size, fun k t hk ht => h.block k hk.lt (fun hm => by
    obtain ⟨T, hT, h1, h2⟩ := hd.get k hm
    rcases ht with rfl | rfl
    · exact TyB.ne hT hk h1 rfl
    · exact TyB.ne hT hk h2 rfl)⟩
theorem Gr.bx {g : Nat} {t : TypeId} {cs : Array Value} (h : Gr gs a w) (hx : Bx a g t cs) (hn : g ∉ gs) : Bx w g t cs := (h.block g hx.lt hn).trans hx
theorem Gr.cell {p : Addr} {v : Value} (h : Gr gs a w) (hc : a.cell? p = some v) (hn : p.block ∉ gs) : w.cell? p = some v := (World.cell?_of_block (h.block p.block (cell_lt hc) hn)).trans hc
theorem Gr.onlyT {T : TypeId} (h : Gr gs a w) (hg : ∀ g ∈ gs, TyB T a g) : OnlyT T a w := ⟨h.size, fun k hk hn => h.block k hk (fun hm => hn (hg k hm))⟩
theorem notMem0 {k : Nat} : k ∉ ([] : List Nat) := fun h => by cases h
theorem notMem1 {k g : Nat} (h : k ≠ g) : k ∉ [g] := fun hm => by cases hm with | head => exact h rfl | tail _ h => cases h
end
theorem Bx.set3 {w : World} {g : Nat} {t : TypeId} {a b c x y z : Value} (h : Bx w g t #[a, b, c]) : Bx (((w.setCell ⟨g, 0, none⟩ x).setCell ⟨g, 1, none⟩ y).setCell ⟨g, 2, none⟩ z) g t #[x, y, z] := ((h.set 0 _ rfl).set 1 _ rfl).set 2 _ rfl
theorem Bx.new0 (w : World) (t : TypeId) (cs : Array Value) {g : Nat} (hg : g = w.heap.size := by first | rfl | (simp; done)) : Bx (w.alloc (.cells cs t)) g t cs := Bx.new' w t cs g hg
end Go.Proofs.YtkfekkhhfpkfaaaGreat
namespace Go.Proofs.YtkfekkhhfpkfaaaGreat
open Go.RowKit Dg
theorem s1_pos (x : Rat) : 0 < sgQ x ↔ 0 < x := by
  have h := sgQ_le x
  by_cases hc : 0 < x
  · exact ⟨fun _ => hc, fun _ => by have := mt h.1 (fun hn => hn hc); omega⟩
  · exact ⟨fun h1 => absurd (h.2 hc) (by omega), fun h1 => absurd h1 hc⟩
theorem s1_le (x : Rat) : sgQ x ≤ 0 ↔ x ≤ 0 := by rw [← Rat.not_lt, ← s1_pos]; omega
theorem RV.zero (w : World) : RV w (.agg #[.bool false, .slice none 0 0, .slice none 0 0]) 0 :=
  ⟨_, _, 0, rfl, ⟨_, _, _, [], rfl, Sl.empty _ _ _ _ (by omega) (fun _ => rfl), Canon.nil _, rfl⟩, ⟨_, _, _, [], rfl, Sl.empty _ _ _ _ (by omega) (fun _ => rfl), Canon.nil _, rfl⟩, .inr ⟨rfl, rfl⟩⟩
def PV2 (w : World) (v : Value) (x y : Rat) : Prop := ∃ a b c d e f, v = .agg #[a, b, c, d, e, f] ∧ PV w (.agg #[a, b, c]) x ∧ PV w (.agg #[d, e, f]) y
def RV2 (w : World) (v : Value) (x y : Rat) : Prop := ∃ a b c d e f, v = .agg #[a, b, c, d, e, f] ∧ RV w (.agg #[a, b, c]) x ∧ RV w (.agg #[d, e, f]) y
section
variable {w w' : World} {v : Value} {x y : Rat}
theorem PV2.mk {a b c d e f : Value} (h1 : PV w (.agg #[a, b, c]) x) (h2 : PV w (.agg #[d, e, f]) y) : PV2 w (.agg #[a, b, c, d, e, f]) x y := ⟨_, _, _, _, _, _, rfl, h1, h2⟩
theorem RV2.mk {a b c d e f : Value} (h1 : RV w (.agg #[a, b, c]) x) (h2 : RV w (.agg #[d, e, f]) y) : RV2 w (.agg #[a, b, c, d, e, f]) x y := ⟨_, _, _, _, _, _, rfl, h1, h2⟩
theorem PV2.shape (h : PV2 w v x y) : ∃ s a n c A N D s' a' n' c' A' N' D', v = .agg #[.bool s, .slice a n c, .slice A N D, .bool s', .slice a' n' c', .slice A' N' D'] ∧ PV w (.agg #[.bool s, .slice a n c, .slice A N D]) x ∧ PV w (.agg #[.bool s', .slice a' n' c', .slice A' N' D']) y := by
  obtain ⟨_, _, _, _, _, _, rfl, h1, h2⟩ := h
  obtain ⟨_, _, _, _, _, _, _, e⟩ := h1.shape
  obtain ⟨rfl, rfl, rfl⟩ := agg3 e
  obtain ⟨_, _, _, _, _, _, _, e⟩ := h2.shape
  obtain ⟨rfl, rfl, rfl⟩ := agg3 e
  exact ⟨_, _, _, _, _, _, _, _, _, _, _, _, _, _, rfl, h1, h2⟩
theorem RV2.shape (h : RV2 w v x y) : ∃ s a n c A N D s' a' n' c' A' N' D', v = .agg #[.bool s, .slice a n c, .slice A N D, .bool s', .slice a' n' c', .slice A' N' D'] ∧ RV w (.agg #[.bool s, .slice a n c, .slice A N D]) x ∧ RV w (.agg #[.bool s', .slice a' n' c', .slice A' N' D']) y := by
  obtain ⟨_, _, _, _, _, _, rfl, h1, h2⟩ := h
  obtain ⟨_, _, _, _, _, _, _, e⟩ := h1.shape
  obtain ⟨rfl, rfl, rfl⟩ := agg3 e
  obtain ⟨_, _, _, _, _, _, _, e⟩ := h2.shape
  obtain ⟨rfl, rfl, rfl⟩ := agg3 e
  exact ⟨_, _, _, _, _, _, _, _, _, _, _, _, _, _, rfl, h1, h2⟩
theorem PV2.mono (h : PV2 w v x y) (hb : Below w.heap.size w w') : PV2 w' v x y := by
  obtain ⟨_, _, _, _, _, _, rfl, h1, h2⟩ := h
  exact .mk (h1.mono hb) (h2.mono hb)
theorem RV2.mono (h : RV2 w v x y) (hb : Below w.heap.size w w') : RV2 w' v x y := by
  obtain ⟨_, _, _, _, _, _, rfl, h1, h2⟩ := h
  exact .mk (h1.mono hb) (h2.mono hb)
end
def nthQ (L : List Rat) (i : Nat) : Rat := L.getD i 0
theorem nthQ_some {L : List Rat} {i : Nat} (h : i < L.length) : L[i]? = some (nthQ L i) := by unfold nthQ; rw [List.getD_eq_getElem?_getD, List.getElem?_eq_getElem h]; rfl
theorem PC.cells {w : World} {cs : List Value} {x : Rat} (h : PC w cs x) : ∃ g a n c A N D, cs = [.bool g, .slice a n c, .slice A N D] ∧ PV w (.agg #[.bool g, .slice a n c, .slice A N D]) x := by
  obtain ⟨_, _, _, rfl, h⟩ := h
  obtain ⟨g, a, n, c, A, N, D, e⟩ := h.shape
  obtain ⟨rfl, rfl, rfl⟩ := agg3 e
  exact ⟨g, a, n, c, A, N, D, rfl, h⟩
theorem RC.cells {w : World} {cs : List Value} {x : Rat} (h : RC w cs x) : ∃ g a n c A N D, cs = [.bool g, .slice a n c, .slice A N D] ∧ RV w (.agg #[.bool g, .slice a n c, .slice A N D]) x := by
  obtain ⟨_, _, _, rfl, h⟩ := h
  obtain ⟨g, a, n, c, A, N, D, e⟩ := h.shape
  obtain ⟨rfl, rfl, rfl⟩ := agg3 e
  exact ⟨g, a, n, c, A, N, D, rfl, h⟩
theorem rowP_at {w : World} {T : TypeId} {b o n c : Nat} {L : List Rat} {i : Nat} (h : Rows 3 T PC w (.slice (some ⟨b, o, none⟩) n c) L) (hi : i < L.length) :
    ∃ g a n' c' A N D, w.cell? ⟨b, o + i * 3, none⟩ = some (.bool g) ∧ w.cell? ⟨b, o + i * 3 + 1, none⟩ = some (.slice a n' c') ∧ w.cell? ⟨b, o + i * 3 + 2, none⟩ = some (.slice A N D) ∧ PV w (.agg #[.bool g, .slice a n' c', .slice A N D]) (nthQ L i) ∧ b < w.heap.size := by
  obtain ⟨b', o', c', cs, hv, _, hat, hc⟩ := h.get (nthQ_some hi)
  obtain ⟨e, rfl⟩ := sliceE hv
  injection e with e
  injection e with e1 e2
  subst e1 e2
  obtain ⟨g, a, n', c', A, N, D, rfl, hp⟩ := hc.cells
  exact ⟨g, a, n', c', A, N, D, hat 0 _ rfl, hat 1 _ rfl, hat 2 _ rfl, hp, cell_lt (hat 0 _ rfl)⟩
theorem rowR_at {w : World} {T : TypeId} {b o n c : Nat} {L : List Rat} {i : Nat} (h : Rows 3 T RC w (.slice (some ⟨b, o, none⟩) n c) L) (hi : i < L.length) :
    ∃ g a n' c' A N D, w.cell? ⟨b, o + i * 3, none⟩ = some (.bool g) ∧ w.cell? ⟨b, o + i * 3 + 1, none⟩ = some (.slice a n' c') ∧ w.cell? ⟨b, o + i * 3 + 2, none⟩ = some (.slice A N D) ∧ RV w (.agg #[.bool g, .slice a n' c', .slice A N D]) (nthQ L i) ∧ b < w.heap.size := by
  obtain ⟨b', o', c', cs, hv, _, hat, hc⟩ := h.get (nthQ_some hi)
  obtain ⟨e, rfl⟩ := sliceE hv
  injection e with e
  injection e with e1 e2
  subst e1 e2
  obtain ⟨g, a, n', c', A, N, D, rfl, hp⟩ := hc.cells
  exact ⟨g, a, n', c', A, N, D, hat 0 _ rfl, hat 1 _ rfl, hat 2 _ rfl, hp, cell_lt (hat 0 _ rfl)⟩
theorem Rows.gr {α : Type} {size : Nat} {T : TypeId} {R : World → List Value → α → Prop} {gs : List Nat} {w w' : World} {b o n c : Nat} {l : List α} (h : Rows size T R w (.slice (some ⟨b, o, none⟩) n c) l) (hR : Kept R) (hG : Gr gs w w') (hn : b ∉ gs) (hk : KeepD w w') :
    Rows size T R w' (.slice (some ⟨b, o, none⟩) n c) l := by
  obtain ⟨ao, c', e, h1, h2, h3, h4, h5⟩ := h
  injection e with ea en ec
  subst ea en ec
  refine ⟨_, _, rfl, h1, h2, h3, fun a ea hl => ?_, fun i x hx => ?_⟩
  · cases ea
    obtain ⟨cs, fr, h6⟩ := h4 _ rfl hl
    exact ⟨cs, fr, (hG.block b (lt_of_block h6) hn).trans h6⟩
  · obtain ⟨b', o', cs, ea, hl, hc, hr⟩ := h5 i x hx
    cases ea
    exact ⟨b, o, cs, rfl, hl, fun j u hu => hG.cell (hc j u hu) hn, hR _ _ _ _ hr hk⟩
end Go.Proofs.YtkfekkhhfpkfaaaGreat
