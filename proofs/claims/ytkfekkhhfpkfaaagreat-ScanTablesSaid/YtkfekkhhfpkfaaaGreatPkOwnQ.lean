/-
  Own slices beside blocks and own slices of the same type: that they lie apart. No function of the program is in sight here.
-/
import Derived.Test.YtkfekkhhfpkfaaaGreatPkGrQ
import Derived.Laws.MakeOwn
set_option linter.unusedSimpArgs false
set_option linter.unusedVariables false
namespace Go.Proofs.YtkfekkhhfpkfaaaGreat
open Go.RowKit Dg
def Ap (o : Option Nat) (g : Nat) : Prop := o ≠ some g
theorem Ap.ne {o : Option Nat} {g : Nat} (h : Ap o g) : some g ≠ o := fun e => h e.symm
theorem Ap.app {o : Option Nat} {g b H : Nat} (h : Ap o b) (hl : o = some g ∨ g = H) (hb : b < H) : Ap (some g) b := fun e => by
  injection e with e
  rcases hl with h1 | h1
  · exact h (e ▸ h1)
  · omega
theorem Ap.one {o : Option Nat} {g : Nat} (h : Ap o g) : ∀ k ∈ [g], Ap o k := fun k hk => by
  cases hk with
  | head => exact h
  | tail _ hk => cases hk
section
variable {α : Type} {base : Nat} {size : Nat} {T : TypeId} {R : World → List Value → α → Prop} {w w' : World} {v u : Value} {l : List α}
theorem OwnR.ap (h : OwnR base T size R w v l) {g : Nat} (hg : w.heap.size ≤ g) : Ap v.ownBlock g := fun e => by
  obtain ⟨css, _, _, _, h4⟩ := h
  have := (h4.lt g e).2
  omega
theorem OwnR.gr (hR : Kept R) (h : OwnR base T size R w v l) {gs : List Nat} (hG : Gr gs w w') (hn : ∀ g ∈ gs, Ap v.ownBlock g) (hk : KeepD w w') : OwnR base T size R w' v l := by
  obtain ⟨css, h1, h2, h3, h4⟩ := h
  refine ⟨css, h1, h2, fun i cs x hc hx => hR _ _ _ _ (h3 i cs x hc hx) hk, ?_⟩
  obtain ⟨e1, e2⟩ := h4
  refine ⟨e1, ?_⟩
  rcases e2 with e2 | ⟨g, cap, cur, rfl, hb, hg, r⟩
  · exact .inl e2
  · refine .inr ⟨g, cap, cur, rfl, hb, ?_, r⟩
    rw [hG.block g (lt_of_block hg) (fun hm => hn g hm rfl)]
    exact hg
theorem rowsJ (hR : Kept R) (v : Value) (W W' : World) (h : Rows size T R W v l) (hb : Below W.heap.size W W') : Rows size T R W' v l := h.mono hR hb
end
end Go.Proofs.YtkfekkhhfpkfaaaGreat
namespace Go.Proofs.YtkfekkhhfpkfaaaGreat
open Go.RowKit Dg
theorem flat_set {size : Nat} : ∀ (css : List (List Value)), (∀ cs ∈ css, cs.length = size) → ∀ (i : Nat) (cs' : List Value), cs'.length = size → i < css.length → ∀ j, (css.set i cs').flatten[j]? = if i * size ≤ j ∧ j < i * size + size then cs'[j - i * size]? else css.flatten[j]?
  | [], _, i, _, _, h, _ => by simp at h
  | c :: r, hs, 0, cs', hc, _, j => by
    have hl : c.length = size := hs c (by simp)
    simp only [List.set_cons_zero, List.flatten_cons, Nat.zero_mul, Nat.zero_le, true_and, Nat.zero_add, Nat.sub_zero]
    by_cases e : j < size
    · rw [if_pos e, List.getElem?_append_left (by omega)]
    · rw [if_neg e, List.getElem?_append_right (by omega), List.getElem?_append_right (by omega), hc, hl]
  | c :: r, hs, i + 1, cs', hc, h, j => by
    have hl : c.length = size := hs c (by simp)
    have hm : (i + 1) * size = i * size + size := Nat.succ_mul i size
    rw [List.set_cons_succ, List.flatten_cons, List.flatten_cons]
    by_cases e : j < size
    · rw [List.getElem?_append_left (by omega), List.getElem?_append_left (by omega), if_neg (by omega)]
    · rw [List.getElem?_append_right (by omega), List.getElem?_append_right (by omega), hl, flat_set r (fun x hx => hs x (List.mem_cons_of_mem _ hx)) i cs' hc (by simpa using h) (j - size), hm]
      by_cases e2 : i * size ≤ j - size ∧ j - size < i * size + size
      · rw [if_pos e2, if_pos (by omega), show j - size - i * size = j - (i * size + size) by omega]
      · rw [if_neg e2, if_neg (by omega)]
section
variable {α : Type} {T : TypeId} {size : Nat} {R : World → List Value → α → Prop} {w w' : World} {g : Nat} {l : List α}
end
end Go.Proofs.YtkfekkhhfpkfaaaGreat
namespace Go.Proofs.YtkfekkhhfpkfaaaGreat
open Go.RowKit Dg
def OwnG {α : Type} (base : Nat) (T : TypeId) (size : Nat) (R : World → List Value → α → Prop) (cap : Nat) (w : World) (g : Nat) (l : List α) : Prop := OwnR base T size R w (.slice (some ⟨g, 0, none⟩) l.length cap) l
section
variable {α : Type} {base : Nat} {T : TypeId} {size : Nat} {R : World → List Value → α → Prop} {w w' : World} {g cap : Nat} {l : List α} {v : Value}
theorem OwnR.openG (h : OwnR base T size R w v l) (hl : 0 < l.length) : ∃ g cap, v = .slice (some ⟨g, 0, none⟩) l.length cap ∧ base ≤ g ∧ l.length ≤ cap ∧ cap ≤ maxLen := by
  obtain ⟨css, _, _, _, e1, e2⟩ := h
  rcases e2 with ⟨_, e⟩ | ⟨g, cap, cur, hv, hb, _, hc, hm, _⟩
  · omega
  · exact ⟨g, cap, hv, hb, hc, hm⟩
theorem OwnG.bx (h : OwnG base T size R cap w g l) : ∃ css : List (List Value), ∃ cur, css.length = l.length ∧ (∀ cs ∈ css, cs.length = size) ∧ (∀ (i : Nat) (cs : List Value) (x : α), css[i]? = some cs → l[i]? = some x → R w cs x) ∧ base ≤ g ∧ Bx w g T cur ∧ l.length ≤ cap ∧ cap ≤ maxLen ∧ cur.size = cap * size ∧ cur.toList.take (l.length * size) = css.flatten := by
  obtain ⟨css, h1, h2, h3, e1, e2⟩ := h
  rcases e2 with ⟨e, _⟩ | ⟨g', cap', cur, hv, hb, hg, hc, hm, hs, ht⟩
  · cases e
  · injection hv with a1 a2 a3
    injection a1 with a1
    injection a1 with a1 _
    subst a1 a3
    exact ⟨css, cur, h1, h2, h3, hb, hg, hc, hm, hs, ht⟩
theorem OwnG.lt (h : OwnG base T size R cap w g l) : g < w.heap.size := by obtain ⟨_, _, _, _, _, _, b, _⟩ := h.bx; exact b.lt
theorem OwnG.ty (h : OwnG base T size R cap w g l) : TyB T w g := by obtain ⟨_, _, _, _, _, _, b, _⟩ := h.bx; exact b.ty
theorem OwnG.free (h : OwnG base T size R cap w g l) (i : Nat) : w.frozen? ⟨g, i, none⟩ = false := by obtain ⟨_, _, _, _, _, _, b, _⟩ := h.bx; exact b.free i
theorem OwnG.gr (hR : Kept R) (h : OwnG base T size R cap w g l) {gs : List Nat} (hG : Gr gs w w') (hn : g ∉ gs) (hk : KeepD w w') : OwnG base T size R cap w' g l :=
  OwnR.gr hR h hG (fun k hk e => hn (by injection e with e; have e : g = k := e; subst e; exact hk)) hk
theorem OwnG.mono (hR : Kept R) (h : OwnG base T size R cap w g l) (hb : Below w.heap.size w w') : OwnG base T size R cap w' g l := OwnR.mono hR h hb
theorem OwnG.cell (h : OwnG base T size R cap w g l) {i : Nat} {x : α} (hx : l[i]? = some x) : ∃ cs, cs.length = size ∧ R w cs x ∧ ∀ j u, cs[j]? = some u → w.cell? ⟨g, i * size + j, none⟩ = some u := by
  obtain ⟨css, cur, h1, h2, h3, _, h4, hc, _, hs, ht⟩ := h.bx
  have hi := (List.getElem?_eq_some_iff.1 hx).1
  have hcs : css[i]? = some (css[i]'(by omega)) := List.getElem?_eq_getElem _
  have hl := h2 _ (List.getElem_mem (show i < css.length by omega))
  refine ⟨css[i]'(by omega), hl, h3 _ _ _ hcs hx, fun j u hu => h4.at _ ?_⟩
  have hj := (List.getElem?_eq_some_iff.1 hu).1
  have e := flat_get css h2 i j _ hcs (by omega)
  have hb : i * size + j < l.length * size := by
    have : (i + 1) * size ≤ l.length * size := Nat.mul_le_mul_right _ (by omega)
    rw [Nat.succ_mul] at this; omega
  rw [← ht, List.getElem?_take, if_pos hb] at e
  rw [← Array.getElem?_toList, e]
  exact hu
end
end Go.Proofs.YtkfekkhhfpkfaaaGreat
namespace Go.Proofs.YtkfekkhhfpkfaaaGreat
open Go.RowKit Dg
theorem ownP_at {w : World} {base : Nat} {T : TypeId} {cap g : Nat} {L : List Rat} {i : Nat} (h : OwnG base T 3 PC cap w g L) (hi : i < L.length) :
    ∃ g' a n' c' A N D, w.cell? ⟨g, i * 3, none⟩ = some (.bool g') ∧ w.cell? ⟨g, i * 3 + 1, none⟩ = some (.slice a n' c') ∧ w.cell? ⟨g, i * 3 + 2, none⟩ = some (.slice A N D) ∧ PV w (.agg #[.bool g', .slice a n' c', .slice A N D]) (nthQ L i) ∧ g < w.heap.size := by
  obtain ⟨cs, _, hc, hat⟩ := h.cell (nthQ_some hi)
  obtain ⟨g', a, n, c, A, N, D, rfl, hp⟩ := hc.cells
  exact ⟨g', a, n, c, A, N, D, hat 0 _ rfl, hat 1 _ rfl, hat 2 _ rfl, hp, h.lt⟩
theorem OwnG.put3 {α : Type} {base : Nat} {T : TypeId} {R : World → List Value → α → Prop} {w w' : World} {g cap : Nat} {l : List α} (hR : Kept R) (h : OwnG base T 3 R cap w g l) {i : Nat} (hi : i < l.length) (hT : T ≠ 108 ∧ T ≠ 62) {a b c : Value} {x : α} (hx : R w [a, b, c] x)
    (hG : Gr [] (((w.setCell ⟨g, i * 3, none⟩ a).setCell ⟨g, i * 3 + 1, none⟩ b).setCell ⟨g, i * 3 + 2, none⟩ c) w') : OwnG base T 3 R cap w' g (l.set i x) := by
  have hk : KeepD w (((w.setCell ⟨g, i * 3, none⟩ a).setCell ⟨g, i * 3 + 1, none⟩ b).setCell ⟨g, i * 3 + 2, none⟩ c) := (((Gr.refl [g] w).set.set.set : Gr [g] w _)).keep ⟨⟨T, h.ty, hT⟩, True.intro⟩
  suffices H : OwnG base T 3 R cap (((w.setCell ⟨g, i * 3, none⟩ a).setCell ⟨g, i * 3 + 1, none⟩ b).setCell ⟨g, i * 3 + 2, none⟩ c) g (l.set i x) from H.gr hR hG (by simp) (hG.keep True.intro)
  obtain ⟨css, cur, h1, h2, h3, hb, h4, hc, hm, hs, ht⟩ := h.bx
  have hf := flat_length css h2
  have hn2 : ∀ cs ∈ css.set i [a, b, c], cs.length = 3 := fun cs hcs => by
    rcases List.mem_or_eq_of_mem_set hcs with m | rfl
    · exact h2 _ m
    · rfl
  refine ⟨css.set i [a, b, c], by simp [h1], hn2, fun j cs y hc' hy => ?_, ?_, ?_⟩
  · rw [List.getElem?_set] at hc' hy
    by_cases e : i = j
    · subst e
      rw [if_pos rfl, if_pos (by omega)] at hc'
      rw [if_pos rfl, if_pos hi] at hy
      cases hc'; cases hy; exact hR _ _ _ _ hx hk
    · rw [if_neg e] at hc' hy
      exact hR _ _ _ _ (h3 j cs y hc' hy) hk
  · rw [flat_length _ hn2]; simp [h1]
  · have hset := ((h4.set (i * 3) a (cs' := cur.setIfInBounds (i * 3) a) rfl).set (i * 3 + 1) b rfl).set (i * 3 + 2) c rfl
    refine .inr ⟨g, cap, _, by rw [List.length_set], hb, hset, by rw [List.length_set]; exact hc, hm, by simp [hs], ?_⟩
    rw [List.length_set]
    refine List.ext_getElem? fun j => ?_
    rw [flat_set css h2 i _ rfl (by omega) j, ← ht]
    simp only [Array.toList_setIfInBounds, List.getElem?_take, List.getElem?_set, List.length_set, Array.length_toList]
    have hcap : l.length * 3 ≤ cap * 3 := Nat.mul_le_mul_right _ hc
    by_cases hj : j < l.length * 3
    · rw [if_pos hj, if_pos hj]
      by_cases e0 : j = i * 3
      · subst e0
        rw [if_neg (by omega), if_neg (by omega), if_pos rfl, if_pos (by omega), if_pos (by omega), Nat.sub_self]; rfl
      · by_cases e1 : j = i * 3 + 1
        · subst e1
          rw [if_neg (by omega), if_pos rfl, if_pos (by omega), if_pos (by omega), show i * 3 + 1 - i * 3 = 1 by omega]; rfl
        · by_cases e2 : j = i * 3 + 2
          · subst e2
            rw [if_pos rfl, if_pos (by omega), if_pos (by omega), show i * 3 + 2 - i * 3 = 2 by omega]; rfl
          · rw [if_neg (by omega), if_neg (by omega), if_neg (by omega), if_neg (by omega)]
    · rw [if_neg hj, if_neg (by omega), if_neg hj]
end Go.Proofs.YtkfekkhhfpkfaaaGreat
