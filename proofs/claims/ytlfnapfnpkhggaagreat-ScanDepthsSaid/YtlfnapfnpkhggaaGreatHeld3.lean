/-
  A region that draws its order: three operations may come up, none the last one. No function of the program is in sight here.
-/
import Derived.Test.YtlfnapfnpkhggaaGreatPkHeld
import Derived.Test.YtlfnapfnpkhggaaGreatGr
set_option linter.unusedSimpArgs false
set_option linter.unusedVariables false
namespace Go.Proofs.YtlfnapfnpkhggaaGreat
open Go

theorem put_mk (l : List Value) (ds : List Deferred) (d : Nat) (v : Value) : Act.put ⟨l.toArray, ds⟩ (some d) v = ⟨(l.set d v).toArray, ds⟩ := by
  simp only [Act.put, List.setIfInBounds_toArray]
/-- The laws that lay a value into a slot. -/
theorem LY : (∀ (l : List Value) (ds : List Deferred) (d : Nat) (v : Value), Act.put ⟨l.toArray, ds⟩ (some d) v = ⟨(l.set d v).toArray, ds⟩) ∧ (∀ (x v : Value) (l : List Value), (x :: l).set 0 v = v :: l) ∧ (∀ (x v : Value) (l : List Value) (n : Nat), (x :: l).set (n + 1) v = x :: l.set n v) :=
  ⟨put_mk, fun _ _ _ => rfl, fun _ _ _ _ => rfl⟩
/-- A variable has been made: the world behind it gets a letter. -/
theorem alloc_letter {B : Nat} {w0 W : World} {t : TypeId} {cs : Array Value} {p : World → Prop} (hs : RowKit.Below B w0 W) (h : ∀ W1, RowKit.Below W.heap.size W W1 → Bx W1 W.heap.size t cs → w0.heap.size ≤ W.heap.size → p W1) : p (W.alloc (.cells cs t)) :=
  h _ ((RowKit.Below.refl _ _).alloc (Nat.le_refl _) _) (Bx.new _ _ _) hs.size
section
variable {P : Program} {ops : Array Oper} {Q : Exit → Act → World → Prop} {md : Region.Mode} {S : World → Prop} {m : Nat}
theorem U_three {i j k : Nat} {oi oj ok : Oper} {fuel : Nat} {listed : Array Bool} {a : Act} {w : World} (hr : Region.ready md ops listed = [i, j, k]) (hi : ops[i]? = some oi) (hj : ops[j]? = some oj) (hk : ops[k]? = some ok)
    (h1 : ∀ K' : Act → World → Prop, Shut (∀ a w, S w → (S w → AnyU P md ops Q S m fuel (listed.setIfInBounds i true) a w) → K' a w) → if Region.wanted oi (yielded ops a.tmps) = true then Oper.wp P oi a w K' Q else K' (a.put oi.dst undef) w)
    (h2 : ∀ K' : Act → World → Prop, Shut (∀ a w, S w → (S w → AnyU P md ops Q S m fuel (listed.setIfInBounds j true) a w) → K' a w) → if Region.wanted oj (yielded ops a.tmps) = true then Oper.wp P oj a w K' Q else K' (a.put oj.dst undef) w)
    (h3 : ∀ K' : Act → World → Prop, Shut (∀ a w, S w → (S w → AnyU P md ops Q S m fuel (listed.setIfInBounds k true) a w) → K' a w) → if Region.wanted ok (yielded ops a.tmps) = true then Oper.wp P ok a w K' Q else K' (a.put ok.dst undef) w) :
    AnyU P md ops Q S m (fuel + 1) listed a w := by
  refine ⟨fun h0 => (by rw [h0] at hr; cases hr), fun x hx => ?_⟩
  rw [hr] at hx
  simp only [List.mem_cons, List.mem_nil_iff, or_false] at hx
  rcases hx with rfl | rfl | rfl
  · exact wpOp_step hi (fun K' hK => h1 K' (fun a w hS hW => hK a w ⟨.inr hS, hW hS⟩))
  · exact wpOp_step hj (fun K' hK => h2 K' (fun a w hS hW => hK a w ⟨.inr hS, hW hS⟩))
  · exact wpOp_step hk (fun K' hK => h3 K' (fun a w hS hW => hK a w ⟨.inr hS, hW hS⟩))
theorem U_takeD {i d : Nat} {oi : Oper} {v : Value} {fuel : Nat} {listed : Array Bool} {l : List Value} {ds : List Deferred} {w : World} (hi : ops[i]? = some oi) (hd : oi.dst = some d) (hwt : waitsFor md ops m i = true)
    (hs : Region.noSelect ops = true) (hf : Region.free md ops listed i = true) (hr : (Region.ready md ops listed).contains i = true)
    (hQ : ∀ c a w, Q (.panic c) (a.put oi.dst v) w → Q (.panic c) a w) (hy : YieldsIf P ops S oi v ⟨l.toArray, ds⟩) (hS : S w)
    (h : AnyU P md ops Q S m fuel (listed.setIfInBounds i true) ⟨(l.set d v).toArray, ds⟩ w) : AnyU P md ops Q S m (fuel + 1) listed ⟨l.toArray, ds⟩ w :=
  U_take hi hwt hs hf hr hQ hy hS (by rw [hd, put_mk]; exact h)
/-- The act and the rest's statement get letters. -/
theorem U_letters {fuel : Nat} {listed : Array Bool} {a : Act} {w : World} (h : ∀ (X : Nat → Array Bool → Act → World → Prop) (a0 : Act), RowKit.Hid (AnyU P md ops Q S m = X) → RowKit.Hid (a = a0) → X fuel listed a0 w) : AnyU P md ops Q S m fuel listed a w :=
  h _ _ (Lib.hid rfl) (Lib.hid rfl)
theorem U_at {f f' : Nat} {l l' : Array Bool} {a : Act} {w : World} (hf : f = f') (hl : l = l') (h : AnyU P md ops Q S m f' l' a w) : AnyU P md ops Q S m f l a w := by subst hf hl; exact h
end
end Go.Proofs.YtlfnapfnpkhggaaGreat
