/-
  A region that draws its order, whose last operation waits for all others and writes a cell that the region loads ('x = f(x)'): what is said of the memory need not hold behind that last operation. After the library's law for loads that are taken first.
-/
import Derived.Test.YtbnomdlojmgigaaGreatPkA2Q
import Derived.Deep.RegionHeld3
import Derived.Below
set_option linter.unusedSimpArgs false
set_option linter.unusedVariables false
namespace Go.Proofs.YtbnomdlojmgigaaGreat
open Go
section
variable {P : Program} {ops : Array Oper} {Q : Exit → Act → World → Prop} {md : Region.Mode} {S : World → Prop} {m : Nat}
def AnyU (P : Program) (md : Region.Mode) (ops : Array Oper) (Q : Exit → Act → World → Prop) (S : World → Prop) (m : Nat) : Nat → Array Bool → Act → World → Prop
  | 0, listed, a, w => Region.ready md ops listed = [] ∧ Q .normal a w
  | fuel + 1, listed, a, w =>
    (Region.ready md ops listed = [] → Q .normal a w) ∧
    ∀ i ∈ Region.ready md ops listed, wpOp P ops Q i (fun a' w' => (i = m ∨ S w') ∧ AnyU P md ops Q S m fuel (listed.setIfInBounds i true) a' w') a w
theorem AnyU.abs {fuel : Nat} {listed : Array Bool} {a : Act} {w : World} (h : ∀ w', w' = w → AnyU P md ops Q S m fuel listed a w') : AnyU P md ops Q S m fuel listed a w := h w rfl
theorem any_of_U : ∀ (fuel : Nat) (listed : Array Bool) (a : Act) (w : World), AnyU P md ops Q S m fuel listed a w → wpAny P md ops Q fuel listed a w
  | 0, _, _, _, h => h
  | fuel + 1, _, _, _, h => ⟨h.1, fun i hi => wpOp_mono (fun a' w' h' => any_of_U fuel _ a' w' h'.2) (h.2 i hi)⟩
def waitsFor (md : Region.Mode) (ops : Array Oper) (m i : Nat) : Bool := ((ops[m]?).map fun o => o.after.any fun e => Region.binds md e && e.on == i).getD false
theorem not_ready_of_waits {listed : Array Bool} {i : Nat} (hw : waitsFor md ops m i = true) (hi : i ∈ Region.ready md ops listed) : ¬ m ∈ Region.ready md ops listed := by
  intro hm
  obtain ⟨_, om, hom, hall⟩ := mem_ready.1 hm
  unfold waitsFor at hw
  rw [hom] at hw
  simp only [Option.map_some, Option.getD_some, Array.any_eq_true, Bool.and_eq_true, beq_iff_eq] at hw
  obtain ⟨k, hk, hb, he⟩ := hw
  have h1 := hall _ (Array.getElem_mem hk) hb
  have h0 := (mem_ready.1 hi).1
  rw [he] at h1
  rcases Nat.lt_or_ge i listed.size with h' | h'
  · simp [h'] at h0 h1; rw [h0] at h1; cases h1
  · simp [Array.getElem?_eq_none h'] at h1
theorem U_first {i : Nat} {oi : Oper} {v : Value} (hi : ops[i]? = some oi) (hwt : waitsFor md ops m i = true) (hsel : ∀ (j : Nat) (o : Oper) cs b, ops[j]? = some o → o.op ≠ .select cs b)
    (hQ : ∀ c a w, Q (.panic c) (a.put oi.dst v) w → Q (.panic c) a w) :
    ∀ (fuel : Nat) (listed : Array Bool) (a : Act) (w : World),
      (∀ j oj, ops[j]? = some oj → j ≠ i → listed.getD j true = false → (∀ e ∈ oj.after, Region.binds md e = true → e.on ≠ i) → oi.apart ops oj = true) →
      i ∈ Region.ready md ops listed → YieldsIf P ops S oi v a → S w →
      AnyU P md ops Q S m fuel (listed.setIfInBounds i true) (a.put oi.dst v) w → AnyU P md ops Q S m (fuel + 1) listed a w := by
  intro fuel
  induction fuel with
  | zero =>
    intro listed a w _ hr hy hS H
    refine ⟨fun h => (by rw [h] at hr; cases hr), fun j hj => ?_⟩
    by_cases hji : j = i
    · subst hji; exact hy.wpOp hi hS ⟨.inr hS, H⟩
    · have := ready_mono hj hji
      rw [H.1] at this
      cases this
  | succ fuel ih =>
    intro listed a w hfree hr hy hS H
    refine ⟨fun h => (by rw [h] at hr; cases hr), fun j hj => ?_⟩
    by_cases hji : j = i
    · subst hji; exact hy.wpOp hi hS ⟨.inr hS, H⟩
    · have hjm : j ≠ m := fun e => not_ready_of_waits hwt hr (e ▸ hj)
      have h1 := H.2 j (ready_mono hj hji)
      obtain ⟨hjun, oj, hoj, hall⟩ := mem_ready.1 hj
      have hnot : ∀ e ∈ oj.after, Region.binds md e = true → e.on ≠ i := fun e he hb heq => by
        have h1 := hall e he hb
        have h0 := (mem_ready.1 hr).1
        rw [heq] at h1
        rcases Nat.lt_or_ge i listed.size with h' | h'
        · simp [h'] at h0 h1; rw [h0] at h1; cases h1
        · simp [Array.getElem?_eq_none h'] at h1
      have h2 := wpOp_putIf hoj (hfree j oj hoj hji hjun hnot) (fun cs b => hsel i oi cs b hi) (fun cs b => hsel j oj cs b hoj) hQ hy h1
      have hfree' : ∀ k ok, ops[k]? = some ok → k ≠ i → (listed.setIfInBounds j true).getD k true = false →
          (∀ e ∈ ok.after, Region.binds md e = true → e.on ≠ i) → oi.apart ops ok = true := fun k ok hk hki hun hno => by
        refine hfree k ok hk hki ?_ hno
        by_cases hjk : j = k
        · subst hjk; exact hjun
        · rw [getD_set_ne true hjk] at hun; exact hun
      refine wpOp_mono (fun a' w' h3 => ⟨.inr (h3.2.1.resolve_left hjm), ih (listed.setIfInBounds j true) a' w' hfree' (ready_mono hr (Ne.symm hji)) h3.1 (h3.2.1.resolve_left hjm) ?_⟩) h2
      rw [Array.setIfInBounds_comm _ _ hji]
      exact h3.2.2
theorem U_take {i : Nat} {oi : Oper} {v : Value} {fuel : Nat} {listed : Array Bool} {a : Act} {w : World} (hi : ops[i]? = some oi) (hwt : waitsFor md ops m i = true)
    (hs : Region.noSelect ops = true) (hf : Region.free md ops listed i = true) (hr : (Region.ready md ops listed).contains i = true)
    (hQ : ∀ c a w, Q (.panic c) (a.put oi.dst v) w → Q (.panic c) a w) (hy : YieldsIf P ops S oi v a) (hS : S w)
    (h : AnyU P md ops Q S m fuel (listed.setIfInBounds i true) (a.put oi.dst v) w) : AnyU P md ops Q S m (fuel + 1) listed a w :=
  U_first hi hwt (Region.noSelect_spec hs) hQ fuel listed a w (Region.free_spec hi hf) (by simpa using hr) hy hS h
theorem U_one {i : Nat} {o : Oper} {fuel : Nat} {listed : Array Bool} {a : Act} {w : World} (hr : Region.ready md ops listed = [i]) (ho : ops[i]? = some o)
    (h : ∀ K' : Act → World → Prop, Shut (∀ a w, S w → (S w → AnyU P md ops Q S m fuel (listed.setIfInBounds i true) a w) → K' a w) → if Region.wanted o (yielded ops a.tmps) = true then Oper.wp P o a w K' Q else K' (a.put o.dst undef) w) :
    AnyU P md ops Q S m (fuel + 1) listed a w := by
  refine ⟨fun h0 => (by rw [h0] at hr; cases hr), fun j hj => ?_⟩
  rw [hr] at hj
  simp only [List.mem_singleton] at hj
  subst hj
  exact wpOp_step ho (fun K' hK => h K' (fun a w hS hW => hK a w ⟨.inr hS, hW hS⟩))
theorem U_two {i j : Nat} {oi oj : Oper} {fuel : Nat} {listed : Array Bool} {a : Act} {w : World} (hr : Region.ready md ops listed = [i, j]) (hi : ops[i]? = some oi) (hj : ops[j]? = some oj)
    (h1 : ∀ K' : Act → World → Prop, Shut (∀ a w, S w → (S w → AnyU P md ops Q S m fuel (listed.setIfInBounds i true) a w) → K' a w) → if Region.wanted oi (yielded ops a.tmps) = true then Oper.wp P oi a w K' Q else K' (a.put oi.dst undef) w)
    (h2 : ∀ K' : Act → World → Prop, Shut (∀ a w, S w → (S w → AnyU P md ops Q S m fuel (listed.setIfInBounds j true) a w) → K' a w) → if Region.wanted oj (yielded ops a.tmps) = true then Oper.wp P oj a w K' Q else K' (a.put oj.dst undef) w) :
    AnyU P md ops Q S m (fuel + 1) listed a w := by
  refine ⟨fun h0 => (by rw [h0] at hr; cases hr), fun k hk => ?_⟩
  rw [hr] at hk
  simp only [List.mem_cons, List.mem_nil_iff, or_false] at hk
  rcases hk with rfl | rfl
  · exact wpOp_step hi (fun K' hK => h1 K' (fun a w hS hW => hK a w ⟨.inr hS, hW hS⟩))
  · exact wpOp_step hj (fun K' hK => h2 K' (fun a w hS hW => hK a w ⟨.inr hS, hW hS⟩))
theorem U_last {o : Oper} {fuel : Nat} {listed : Array Bool} {a : Act} {w : World} (hr : Region.ready md ops listed = [m]) (ho : ops[m]? = some o)
    (hr' : Region.ready md ops (listed.setIfInBounds m true) = [])
    (h : ∀ K' : Act → World → Prop, Shut (∀ a w, (∀ w', w' = w → Q .normal a w') → K' a w) → if Region.wanted o (yielded ops a.tmps) = true then Oper.wp P o a w K' Q else K' (a.put o.dst undef) w) :
    AnyU P md ops Q S m (fuel + 1) listed a w := by
  refine ⟨fun h0 => (by rw [h0] at hr; cases hr), fun j hj => ?_⟩
  rw [hr] at hj
  simp only [List.mem_singleton] at hj
  subst hj
  refine wpOp_step ho (fun K' hK => h K' (fun a w hq => hK a w ⟨.inl rfl, ?_⟩))
  have hq := hq w rfl
  cases fuel with
  | zero => exact ⟨hr', hq⟩
  | succ n => exact ⟨fun _ => hq, by rw [hr']; simp⟩
theorem U_region {id : Nat} {a : Act} {w : World} (hm : P.follows .mixedOrders = true) (m : Nat)
    (h : AnyU P .any ops Q S m ops.size (Array.replicate ops.size false) a w.drew) : (Code.region id ops true).wp P Q a w :=
  wp_region_any hm (any_of_U _ _ _ _ h)
end
end Go.Proofs.YtbnomdlojmgigaaGreat
namespace Go.Proofs.YtbnomdlojmgigaaGreat
open Go.RowKit Dg
structure Gr (gs : List Nat) (w w' : World) : Prop where
  os : w'.os = w.os
  tape : w'.tape = w.tape
  output : w'.output = w.output
  size : w.heap.size ≤ w'.heap.size
  block : ∀ k, k < w.heap.size → k ∉ gs → w'.heap[k]? = w.heap[k]?
def NoD (w : World) : List Nat → Prop
  | [] => True
  | g :: r => (∃ T, TyB T w g ∧ (T ≠ 108 ∧ T ≠ 150)) ∧ NoD w r
theorem NoD.get {w : World} : ∀ {gs : List Nat}, NoD w gs → ∀ g ∈ gs, ∃ T, TyB T w g ∧ (T ≠ 108 ∧ T ≠ 150)
  | _ :: _, h, g, hg => by
    rcases List.mem_cons.1 hg with rfl | hg
    · exact h.1
    · exact NoD.get h.2 g hg
section
variable {gs : List Nat} {a w : World}
theorem Gr.refl (gs : List Nat) (w : World) : Gr gs w w := ⟨rfl, rfl, rfl, Nat.le_refl _, fun _ _ _ => rfl⟩
theorem Gr.set (h : Gr gs a w) {p : Addr} {u : Value} (hp : p.block ∈ gs := by first | exact .head _ | exact .tail _ (.head _) | exact .tail _ (.tail _ (.head _))) : Gr gs a (w.setCell p u) :=
  ⟨h.os, h.tape, h.output, by simpa [World.setCell] using h.size, fun k hk hn => (Below.heap_setCell _ _ _ _ (fun e => hn (by rw [e]; exact hp))).trans (h.block k hk hn)⟩
theorem Gr.alloc (h : Gr gs a w) {o : Obj} : Gr gs a (w.alloc o) :=
  ⟨h.os, h.tape, h.output, by have := h.size; simp; omega, fun k hk hn => (Below.heap_alloc _ _ _ (by have := h.size; omega)).trans (h.block k hk hn)⟩
theorem Gr.drew (h : Gr gs a w) : Gr gs a w.drew := ⟨h.os, h.tape, h.output, h.size, h.block⟩
theorem Gr.below {B : Nat} (h : Gr gs a w) (hB : B ≤ a.heap.size) (hg : ∀ g ∈ gs, B ≤ g) : Below B a w :=
  ⟨h.os, h.tape, h.output, h.size, fun k hk => h.block k (by omega) (fun hm => by have := hg k hm; omega)⟩
theorem Gr.below0 {B : Nat} (h : Gr [] a w) (hB : B ≤ a.heap.size) : Below B a w := h.below hB (fun _ hg => by cases hg)
theorem Gr.below1 {B g : Nat} (h : Gr [g] a w) (hB : B ≤ a.heap.size) (h1 : B ≤ g) : Below B a w := h.below hB (fun x hx => by cases hx with | head => exact h1 | tail _ h => cases h)
theorem Gr.below2 {B g g' : Nat} (h : Gr [g, g'] a w) (hB : B ≤ a.heap.size) (h1 : B ≤ g) (h2 : B ≤ g') : Below B a w := h.below hB (fun x hx => by
  cases hx with
  | head => exact h1
  | tail _ h => cases h with
    | head => exact h2
    | tail _ h => cases h)
theorem Gr.keep (h : Gr gs a w) (hd : NoD a gs) : KeepD a w :=
  ⟨h.size, fun k t hk ht => h.block k hk.lt (fun hm => by
    obtain ⟨T, hT, h1, h2⟩ := hd.get k hm
    rcases ht with rfl | rfl
    · exact TyB.ne hT hk h1 rfl
    · exact TyB.ne hT hk h2 rfl)⟩
theorem Gr.bx {g : Nat} {t : TypeId} {cs : Array Value} (h : Gr gs a w) (hx : Bx a g t cs) (hn : g ∉ gs) : Bx w g t cs := (h.block g hx.lt hn).trans hx
theorem Gr.cell {p : Addr} {v : Value} (h : Gr gs a w) (hc : a.cell? p = some v) (hn : p.block ∉ gs) : w.cell? p = some v := (World.cell?_of_block (h.block p.block (cell_lt hc) hn)).trans hc
theorem Gr.onlyT {T : TypeId} (h : Gr gs a w) (hg : ∀ g ∈ gs, TyB T a g) : OnlyT T a w := ⟨h.size, fun k hk hn => h.block k hk (fun hm => hn (hg k hm))⟩
theorem notMem0 {k : Nat} : k ∉ ([] : List Nat) := fun h => by cases h
theorem notMem1 {k g : Nat} (h : k ≠ g) : k ∉ [g] := fun hm => by cases hm with | head => exact h rfl | tail _ h => cases h
end
theorem Bx.set3 {w : World} {g : Nat} {t : TypeId} {a b c x y z : Value} (h : Bx w g t #[a, b, c]) : Bx (((w.setCell ⟨g, 0, none⟩ x).setCell ⟨g, 1, none⟩ y).setCell ⟨g, 2, none⟩ z) g t #[x, y, z] := ((h.set 0 _ rfl).set 1 _ rfl).set 2 _ rfl
theorem Bx.new0 (w : World) (t : TypeId) (cs : Array Value) {g : Nat} (hg : g = w.heap.size := by first | rfl | (simp; done)) : Bx (w.alloc (.cells cs t)) g t cs := Bx.new' w t cs g hg
class Mg (A : Prop) (w w' : World) (B : outParam Prop) : Prop where
  mv : Gr [] w w' → A → B
class MgS (A : Prop) (w w' : World) (B : outParam Prop) : Prop where
  mv : Gr [] w w' → B → A
section
variable {w w' : World}
instance {g : Nat} {t : TypeId} {c : Array Value} : Mg (Bx w g t c) w w' (Bx w' g t c) := ⟨fun hb h => hb.bx h notMem0⟩
instance {v : Value} {q : Rat} : Mg (PV w v q) w w' (PV w' v q) := ⟨fun hb h => h.keep (hb.keep True.intro)⟩
instance {v : Value} {q : Rat} : Mg (RV w v q) w w' (RV w' v q) := ⟨fun hb h => h.keep (hb.keep True.intro)⟩
instance (priority := low) {G : Prop} : MgS G w w' G := ⟨fun _ h => h⟩
instance {A B X Y : Prop} [Mg A w w' B] [MgS X w w' Y] : MgS (A → X) w w' (B → Y) := ⟨fun hb h a => MgS.mv hb (h (Mg.mv hb a))⟩
theorem Gr.b1 {a w : World} {k g : Nat} {t : TypeId} {cs : Array Value} (h : Gr [k] a w) (hx : Bx a g t cs) (hn : g ≠ k := by omega) : Bx w g t cs := h.bx hx (notMem1 hn)
theorem Gr.c1 {a w : World} {k : Nat} {p : Addr} {v : Value} (h : Gr [k] a w) (hc : a.cell? p = some v) (hn : p.block ≠ k := by (dsimp only; omega)) : w.cell? p = some v := h.cell hc (notMem1 hn)
theorem Gr.d1 {a w : World} {B g : Nat} (h : Gr [g] a w) (hB : B ≤ a.heap.size) (h1 : B ≤ g := by first | omega | assumption) : Below B a w := h.below1 hB h1
theorem g0 {X Y : Prop} [MgS X w w' Y] (hG : Gr [] w w') (h : Y) : X := MgS.mv hG h
end
end Go.Proofs.YtbnomdlojmgigaaGreat
namespace Go.Proofs.YtbnomdlojmgigaaGreat
open Go
theorem put_mk (l : List Value) (ds : List Deferred) (d : Nat) (v : Value) : Act.put ⟨l.toArray, ds⟩ (some d) v = ⟨(l.set d v).toArray, ds⟩ := by
  simp only [Act.put, List.setIfInBounds_toArray]
theorem LY : (∀ (l : List Value) (ds : List Deferred) (d : Nat) (v : Value), Act.put ⟨l.toArray, ds⟩ (some d) v = ⟨(l.set d v).toArray, ds⟩) ∧ (∀ (x v : Value) (l : List Value), (x :: l).set 0 v = v :: l) ∧ (∀ (x v : Value) (l : List Value) (n : Nat), (x :: l).set (n + 1) v = x :: l.set n v) :=
  ⟨put_mk, fun _ _ _ => rfl, fun _ _ _ _ => rfl⟩
theorem alloc_letter {B : Nat} {w0 W : World} {t : TypeId} {cs : Array Value} {p : World → Prop} (hs : RowKit.Below B w0 W) (h : ∀ W1, RowKit.Below W.heap.size W W1 → Bx W1 W.heap.size t cs → w0.heap.size ≤ W.heap.size → p W1) : p (W.alloc (.cells cs t)) :=
  h _ ((RowKit.Below.refl _ _).alloc (Nat.le_refl _) _) (Bx.new _ _ _) hs.size
section
variable {P : Program} {ops : Array Oper} {Q : Exit → Act → World → Prop} {md : Region.Mode} {S : World → Prop} {m : Nat}
theorem U_three {i j k : Nat} {oi oj ok : Oper} {fuel : Nat} {listed : Array Bool} {a : Act} {w : World} (hr : Region.ready md ops listed = [i, j, k]) (hi : ops[i]? = some oi) (hj : ops[j]? = some oj) (hk : ops[k]? = some ok)
    (h1 : ∀ K' : Act → World → Prop, Shut (∀ a w, S w → (S w → AnyU P md ops Q S m fuel (listed.setIfInBounds i true) a w) → K' a w) → if Region.wanted oi (yielded ops a.tmps) = true then Oper.wp P oi a w K' Q else K' (a.put oi.dst undef) w)
    (h2 : ∀ K' : Act → World → Prop, Shut (∀ a w, S w → (S w → AnyU P md ops Q S m fuel (listed.setIfInBounds j true) a w) → K' a w) → if Region.wanted oj (yielded ops a.tmps) = true then Oper.wp P oj a w K' Q else K' (a.put oj.dst undef) w)
    (h3 : ∀ K' : Act → World → Prop, Shut (∀ a w, S w → (S w → AnyU P md ops Q S m fuel (listed.setIfInBounds k true) a w) → K' a w) → if Region.wanted ok (yielded ops a.tmps) = true then Oper.wp P ok a w K' Q else K' (a.put ok.dst undef) w) :
    AnyU P md ops Q S m (fuel + 1) listed a w := by
  refine ⟨fun h0 => (by rw [h0] at hr; cases hr), fun x hx => ?_⟩
  rw [hr] at hx
  simp only [List.mem_cons, List.mem_nil_iff, or_false] at hx
  rcases hx with rfl | rfl | rfl
  · exact wpOp_step hi (fun K' hK => h1 K' (fun a w hS hW => hK a w ⟨.inr hS, hW hS⟩))
  · exact wpOp_step hj (fun K' hK => h2 K' (fun a w hS hW => hK a w ⟨.inr hS, hW hS⟩))
  · exact wpOp_step hk (fun K' hK => h3 K' (fun a w hS hW => hK a w ⟨.inr hS, hW hS⟩))
theorem U_takeD {i d : Nat} {oi : Oper} {v : Value} {fuel : Nat} {listed : Array Bool} {l : List Value} {ds : List Deferred} {w : World} (hi : ops[i]? = some oi) (hd : oi.dst = some d) (hwt : waitsFor md ops m i = true)
    (hs : Region.noSelect ops = true) (hf : Region.free md ops listed i = true) (hr : (Region.ready md ops listed).contains i = true)
    (hQ : ∀ c a w, Q (.panic c) (a.put oi.dst v) w → Q (.panic c) a w) (hy : YieldsIf P ops S oi v ⟨l.toArray, ds⟩) (hS : S w)
    (h : AnyU P md ops Q S m fuel (listed.setIfInBounds i true) ⟨(l.set d v).toArray, ds⟩ w) : AnyU P md ops Q S m (fuel + 1) listed ⟨l.toArray, ds⟩ w :=
  U_take hi hwt hs hf hr hQ hy hS (by rw [hd, put_mk]; exact h)
theorem U_letters {fuel : Nat} {listed : Array Bool} {a : Act} {w : World} (h : ∀ (X : Nat → Array Bool → Act → World → Prop) (a0 : Act), RowKit.Hid (AnyU P md ops Q S m = X) → RowKit.Hid (a = a0) → X fuel listed a0 w) : AnyU P md ops Q S m fuel listed a w :=
  h _ _ (Lib.hid rfl) (Lib.hid rfl)
theorem U_at {f f' : Nat} {l l' : Array Bool} {a : Act} {w : World} (hf : f = f') (hl : l = l') (h : AnyU P md ops Q S m f' l' a w) : AnyU P md ops Q S m f l a w := by subst hf hl; exact h
end
end Go.Proofs.YtbnomdlojmgigaaGreat
namespace Go.Proofs.YtbnomdlojmgigaaGreat
open Go
section
variable {P : Program} {ops : Array Oper} {Q : Exit → Act → World → Prop} {md : Region.Mode} {S : World → Prop} {m : Nat}
theorem U_firstN {i : Nat} {oi : Oper} {v : Value} (hi : ops[i]? = some oi) (hm : ops[m]? = none) (hsel : ∀ (j : Nat) (o : Oper) cs b, ops[j]? = some o → o.op ≠ .select cs b)
    (hQ : ∀ c a w, Q (.panic c) (a.put oi.dst v) w → Q (.panic c) a w) :
    ∀ (fuel : Nat) (listed : Array Bool) (a : Act) (w : World),
      (∀ j oj, ops[j]? = some oj → j ≠ i → listed.getD j true = false → (∀ e ∈ oj.after, Region.binds md e = true → e.on ≠ i) → oi.apart ops oj = true) →
      i ∈ Region.ready md ops listed → YieldsIf P ops S oi v a → S w →
      AnyU P md ops Q S m fuel (listed.setIfInBounds i true) (a.put oi.dst v) w → AnyU P md ops Q S m (fuel + 1) listed a w := by
  intro fuel
  induction fuel with
  | zero =>
    intro listed a w _ hr hy hS H
    refine ⟨fun h => (by rw [h] at hr; cases hr), fun j hj => ?_⟩
    by_cases hji : j = i
    · subst hji; exact hy.wpOp hi hS ⟨.inr hS, H⟩
    · have := ready_mono hj hji
      rw [H.1] at this
      cases this
  | succ fuel ih =>
    intro listed a w hfree hr hy hS H
    refine ⟨fun h => (by rw [h] at hr; cases hr), fun j hj => ?_⟩
    by_cases hji : j = i
    · subst hji; exact hy.wpOp hi hS ⟨.inr hS, H⟩
    · have h1 := H.2 j (ready_mono hj hji)
      obtain ⟨hjun, oj, hoj, hall⟩ := mem_ready.1 hj
      have hjm : j ≠ m := fun e => by subst e; rw [hm] at hoj; cases hoj
      have hnot : ∀ e ∈ oj.after, Region.binds md e = true → e.on ≠ i := fun e he hb heq => by
        have h1 := hall e he hb
        have h0 := (mem_ready.1 hr).1
        rw [heq] at h1
        rcases Nat.lt_or_ge i listed.size with h' | h'
        · simp [h'] at h0 h1; rw [h0] at h1; cases h1
        · simp [Array.getElem?_eq_none h'] at h1
      have h2 := wpOp_putIf hoj (hfree j oj hoj hji hjun hnot) (fun cs b => hsel i oi cs b hi) (fun cs b => hsel j oj cs b hoj) hQ hy h1
      have hfree' : ∀ k ok, ops[k]? = some ok → k ≠ i → (listed.setIfInBounds j true).getD k true = false →
          (∀ e ∈ ok.after, Region.binds md e = true → e.on ≠ i) → oi.apart ops ok = true := fun k ok hk hki hun hno => by
        refine hfree k ok hk hki ?_ hno
        by_cases hjk : j = k
        · subst hjk; exact hjun
        · rw [getD_set_ne true hjk] at hun; exact hun
      refine wpOp_mono (fun a' w' h3 => ⟨.inr (h3.2.1.resolve_left hjm), ih (listed.setIfInBounds j true) a' w' hfree' (ready_mono hr (Ne.symm hji)) h3.1 (h3.2.1.resolve_left hjm) ?_⟩) h2
      rw [Array.setIfInBounds_comm _ _ hji]
      exact h3.2.2
theorem U_takeN {i d : Nat} {oi : Oper} {v : Value} {fuel : Nat} {listed : Array Bool} {l : List Value} {ds : List Deferred} {w : World} (hi : ops[i]? = some oi) (hd : oi.dst = some d) (hm : ops[m]? = none)
    (hs : Region.noSelect ops = true) (hf : Region.free md ops listed i = true) (hr : (Region.ready md ops listed).contains i = true)
    (hQ : ∀ c a w, Q (.panic c) (a.put oi.dst v) w → Q (.panic c) a w) (hy : YieldsIf P ops S oi v ⟨l.toArray, ds⟩) (hS : S w)
    (h : AnyU P md ops Q S m fuel (listed.setIfInBounds i true) ⟨(l.set d v).toArray, ds⟩ w) : AnyU P md ops Q S m (fuel + 1) listed ⟨l.toArray, ds⟩ w :=
  U_firstN hi hm (Region.noSelect_spec hs) hQ fuel listed _ w (Region.free_spec hi hf) (by simpa using hr) hy hS (by rw [hd, put_mk]; exact h)
theorem U_tk (i d : Nat) (v : Value) {oi : Oper} {fuel : Nat} {listed : Array Bool} {l : List Value} {ds : List Deferred} {w : World} (hy : ∀ w, S w → (execOp (Act.eval ⟨l.toArray, ds⟩) oi).run P w = .ok (.value v) w) (hS : S w)
    (h : AnyU P md ops Q S m fuel (listed.setIfInBounds i true) ⟨(l.set d v).toArray, ds⟩ w) (hi : ops[i]? = some oi := by rfl) (hd : oi.dst = some d := by rfl) (hm : ops[m]? = none := by rfl)
    (hs : Region.noSelect ops = true := by kernel_rfl) (hf : Region.free md ops listed i = true := by kernel_rfl) (hr : (Region.ready md ops listed).contains i = true := by kernel_rfl)
    (hQ : ∀ c a w, Q (.panic c) (a.put oi.dst v) w → Q (.panic c) a w := by exact fun _ _ _ h => h) (hw : Region.wanted oi (yielded ops l.toArray) = true := by rfl) : AnyU P md ops Q S m (fuel + 1) listed ⟨l.toArray, ds⟩ w :=
  U_takeN hi hd hm hs hf hr hQ (.inl ⟨hw, hy⟩) hS h
theorem U_on (i : Nat) {o : Oper} {fuel : Nat} {listed : Array Bool} {a : Act} {w : World}
    (h : ∀ K' : Act → World → Prop, Shut (∀ a w, S w → (S w → AnyU P md ops Q S m fuel (listed.setIfInBounds i true) a w) → K' a w) → if Region.wanted o (yielded ops a.tmps) = true then Oper.wp P o a w K' Q else K' (a.put o.dst undef) w) (hr : Region.ready md ops listed = [i] := by kernel_rfl) (ho : ops[i]? = some o := by rfl) :
    AnyU P md ops Q S m (fuel + 1) listed a w := U_one hr ho h
theorem U_tq (i d : Nat) {v : Value} {oi : Oper} {fuel : Nat} {listed : Array Bool} {l : List Value} {ds : List Deferred} {w : World} (hS : S w)
    (h : AnyU P md ops Q S m fuel (listed.setIfInBounds i true) ⟨(l.set d v).toArray, ds⟩ w) (hi : ops[i]? = some oi := by rfl) (hy : ∀ w, S w → (execOp (Act.eval ⟨l.toArray, ds⟩) oi).run P w = .ok (.value v) w := by (intro w h; (try dsimp only at h); go_simp; try with_reducible rfl)) (hd : oi.dst = some d := by rfl) (hm : ops[m]? = none := by rfl)
    (hs : Region.noSelect ops = true := by kernel_rfl) (hf : Region.free md ops listed i = true := by kernel_rfl) (hr : (Region.ready md ops listed).contains i = true := by kernel_rfl)
    (hQ : ∀ c a w, Q (.panic c) (a.put oi.dst v) w → Q (.panic c) a w := by exact fun _ _ _ h => h) (hw : Region.wanted oi (yielded ops l.toArray) = true := by rfl) : AnyU P md ops Q S m (fuel + 1) listed ⟨l.toArray, ds⟩ w := U_tk i d v hy hS h hi hd hm hs hf hr hQ hw
theorem U_tu (i d : Nat) {oi : Oper} {fuel : Nat} {listed : Array Bool} {l : List Value} {ds : List Deferred} {w : World} (hS : S w)
    (h : AnyU P md ops Q S m fuel (listed.setIfInBounds i true) ⟨(l.set d undef).toArray, ds⟩ w) (hi : ops[i]? = some oi := by rfl) (hd : oi.dst = some d := by rfl) (hm : ops[m]? = none := by rfl)
    (hs : Region.noSelect ops = true := by kernel_rfl) (hf : Region.free md ops listed i = true := by kernel_rfl) (hr : (Region.ready md ops listed).contains i = true := by kernel_rfl)
    (hQ : ∀ c a w, Q (.panic c) (a.put oi.dst undef) w → Q (.panic c) a w := by exact fun _ _ _ h => h) (hw : Region.wanted oi (yielded ops l.toArray) = false := by rfl) : AnyU P md ops Q S m (fuel + 1) listed ⟨l.toArray, ds⟩ w :=
  U_takeN hi hd hm hs hf hr hQ (.inr ⟨hw, rfl⟩) hS h
theorem U_tt (i : Nat) (v : Value) {oi : Oper} {fuel : Nat} {listed : Array Bool} {a : Act} {w : World} (hy : ∀ w, S w → (execOp a.eval oi).run P w = .ok (.value v) w) (hS : S w)
    (h : AnyU P md ops Q S m fuel (listed.setIfInBounds i true) (a.put oi.dst v) w) (hi : ops[i]? = some oi := by rfl) (hwt : waitsFor md ops m i = true := by kernel_rfl)
    (hs : Region.noSelect ops = true := by kernel_rfl) (hf : Region.free md ops listed i = true := by kernel_rfl) (hr : (Region.ready md ops listed).contains i = true := by kernel_rfl)
    (hQ : ∀ c a w, Q (.panic c) (a.put oi.dst v) w → Q (.panic c) a w := by exact fun _ _ _ h => h) (hw : Region.wanted oi (yielded ops a.tmps) = true := by rfl) : AnyU P md ops Q S m (fuel + 1) listed a w :=
  U_take hi hwt hs hf hr hQ (.inl ⟨hw, hy⟩) hS h
theorem U_endN {fuel : Nat} {listed : Array Bool} {a : Act} {w : World} (hr : Region.ready md ops listed = []) (h : Q .normal a w) : AnyU P md ops Q S m fuel listed a w := by
  cases fuel with
  | zero => exact ⟨hr, h⟩
  | succ n => exact ⟨fun _ => h, by rw [hr]; simp⟩
end
end Go.Proofs.YtbnomdlojmgigaaGreat
