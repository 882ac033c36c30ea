/-
  Own slices beside blocks and own slices of the same type: that they lie apart. No function of the program is in sight here.
-/
import Derived.Test.YtkfekkhhfpkfaaaPkGr
set_option linter.unusedSimpArgs false
set_option linter.unusedVariables false
namespace Go.Proofs.Ytkfekkhhfpkfaaa
open Go.RowKit Dg

/-- The own block o is not g. -/
def Ap (o : Option Nat) (g : Nat) : Prop := o ≠ some g
/-- Two slices' own blocks are not the same one. -/
def Ap2 (o p : Option Nat) : Prop := ∀ g, o = some g → p ≠ some g
theorem Ap.ne {o : Option Nat} {g : Nat} (h : Ap o g) : some g ≠ o := fun e => h e.symm
theorem Ap.app {o : Option Nat} {g b H : Nat} (h : Ap o b) (hl : o = some g ∨ g = H) (hb : b < H) : Ap (some g) b := fun e => by
  injection e with e
  rcases hl with h1 | h1
  · exact h (e ▸ h1)
  · omega
theorem Ap.one {o : Option Nat} {g : Nat} (h : Ap o g) : ∀ k ∈ [g], Ap o k := fun k hk => by
  cases hk with
  | head => exact h
  | tail _ hk => cases hk
theorem Ap2.nil (p : Option Nat) : Ap2 none p := fun _ h => by cases h
theorem Ap2.symm {o p : Option Nat} (h : Ap2 o p) : Ap2 p o := fun g h1 h2 => h g h2 h1
theorem Ap2.or {o p : Option Nat} (h : Ap2 o p) : p = none ∨ p ≠ o := by
  cases o with
  | none => cases p with
    | none => exact .inl rfl
    | some k => exact .inr (fun h => by cases h)
  | some g => exact .inr (h g rfl)
section
variable {α : Type} {base : Nat} {size : Nat} {T : TypeId} {R : World → List Value → α → Prop} {w w' : World} {v u : Value} {l : List α}
theorem OwnR.ap (h : OwnR base T size R w v l) {g : Nat} (hg : w.heap.size ≤ g) : Ap v.ownBlock g := fun e => by
  obtain ⟨css, _, _, _, h4⟩ := h
  have := (h4.lt g e).2
  omega
theorem Ap2.app {o : Option Nat} {g H : Nat} (h : Ap2 o u.ownBlock) (hl : o = some g ∨ g = H) (ho : OwnR base T size R w u l) (hH : w.heap.size ≤ H) : Ap2 (some g) u.ownBlock := fun k e => by
  injection e with e
  subst e
  rcases hl with h1 | h1
  · exact h g h1
  · exact ho.ap (by omega)
theorem OwnR.gr (hR : Kept R) (h : OwnR base T size R w v l) {gs : List Nat} (hG : Gr gs w w') (hn : ∀ g ∈ gs, Ap v.ownBlock g) (hk : KeepD w w') : OwnR base T size R w' v l := by
  obtain ⟨css, h1, h2, h3, h4⟩ := h
  refine ⟨css, h1, h2, fun i cs x hc hx => hR _ _ _ _ (h3 i cs x hc hx) hk, ?_⟩
  obtain ⟨e1, e2⟩ := h4
  refine ⟨e1, ?_⟩
  rcases e2 with e2 | ⟨g, cap, cur, rfl, hb, hg, r⟩
  · exact .inl e2
  · refine .inr ⟨g, cap, cur, rfl, hb, ?_, r⟩
    rw [hG.block g (lt_of_block hg) (fun hm => hn g hm rfl)]
    exact hg
theorem OwnR.push' (hR : Kept R) {css : List (List Value)} (h1 : css.length = l.length) (h2 : ∀ cs ∈ css, cs.length = size) (h3 : ∀ (i : Nat) (cs : List Value) (x : α), css[i]? = some cs → l[i]? = some x → R w cs x) {v' : Value} {cs : List Value} {x : α} (hl : cs.length = size) (hx : R w cs x)
    {n : Nat} (hn : l.length = n) (hown : w'.ownsRow base T size v' (n + 1) (css.flatten ++ cs)) (hk : KeepD w w') : OwnR base T size R w' v' (l ++ [x]) := by
  subst hn
  exact OwnR.push hR h1 h2 h3 hl hx hown hk
theorem rowsP1 {g : Nat} {a b c : Value} {q : Rat} (h : Bx w g T #[a, b, c]) (hq : PV w (.agg #[a, b, c]) q) : Rows 3 T PC w (.slice (some ⟨g, 0, none⟩) 1 1) [q] := by
  refine ⟨_, 1, rfl, Nat.le_refl _, by decide, (fun e => by cases e), (fun a ea _ => by cases ea; exact h.ty), fun i x hx => ?_⟩
  match i, hx with
  | 0, hx =>
    cases hx
    refine ⟨g, 0, [a, b, c], rfl, rfl, fun j u hu => ?_, _, _, _, rfl, hq⟩
    match j, hu with
    | 0, hu => cases hu; exact h.at 0 rfl
    | 1, hu => cases hu; exact h.at 1 rfl
    | 2, hu => cases hu; exact h.at 2 rfl
theorem rowsJ (hR : Kept R) (v : Value) (W W' : World) (h : Rows size T R W v l) (hb : Below W.heap.size W W') : Rows size T R W' v l := h.mono hR hb
theorem rowsIJ (hR : Kept R) (v : Value) (W W' : World) (h : RowsI size R W v l) (hb : Below W.heap.size W W') : RowsI size R W' v l := h.mono hR hb
end
end Go.Proofs.Ytkfekkhhfpkfaaa
