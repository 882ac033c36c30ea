/-
  An own slice at a block that is known: its elements read, a cell of an element stored, the last ones cut off. No function of the program is in sight here.
-/
import Derived.Test.YtmnipggjjcmjkaaVec
set_option linter.unusedSimpArgs false
set_option linter.unusedVariables false
namespace Go.Proofs.Ytmnipggjjcmjkaa
open Go.RowKit Dg

/-- The own slice at block g, of the capacity cap, holds l. -/
def OwnG {α : Type} (base : Nat) (T : TypeId) (size : Nat) (R : World → List Value → α → Prop) (cap : Nat) (w : World) (g : Nat) (l : List α) : Prop := OwnR base T size R w (.slice (some ⟨g, 0, none⟩) l.length cap) l
section
variable {α : Type} {base : Nat} {T : TypeId} {size : Nat} {R : World → List Value → α → Prop} {w w' : World} {g cap : Nat} {l : List α} {v : Value}
theorem OwnR.openG (h : OwnR base T size R w v l) (hl : 0 < l.length) : ∃ g cap, v = .slice (some ⟨g, 0, none⟩) l.length cap ∧ base ≤ g ∧ l.length ≤ cap ∧ cap ≤ maxLen := by
  obtain ⟨css, _, _, _, e1, e2⟩ := h
  rcases e2 with ⟨_, e⟩ | ⟨g, cap, cur, hv, hb, _, hc, hm, _⟩
  · omega
  · exact ⟨g, cap, hv, hb, hc, hm⟩
theorem OwnG.bx (h : OwnG base T size R cap w g l) : ∃ css : List (List Value), ∃ cur, css.length = l.length ∧ (∀ cs ∈ css, cs.length = size) ∧ (∀ (i : Nat) (cs : List Value) (x : α), css[i]? = some cs → l[i]? = some x → R w cs x) ∧ base ≤ g ∧ Bx w g T cur ∧ l.length ≤ cap ∧ cap ≤ maxLen ∧ cur.size = cap * size ∧ cur.toList.take (l.length * size) = css.flatten := by
  obtain ⟨css, h1, h2, h3, e1, e2⟩ := h
  rcases e2 with ⟨e, _⟩ | ⟨g', cap', cur, hv, hb, hg, hc, hm, hs, ht⟩
  · cases e
  · injection hv with a1 a2 a3
    injection a1 with a1
    injection a1 with a1 _
    subst a1 a3
    exact ⟨css, cur, h1, h2, h3, hb, hg, hc, hm, hs, ht⟩
theorem OwnG.lt (h : OwnG base T size R cap w g l) : g < w.heap.size := by obtain ⟨_, _, _, _, _, _, b, _⟩ := h.bx; exact b.lt
theorem OwnG.low (h : OwnG base T size R cap w g l) : base ≤ g := by obtain ⟨_, _, _, _, _, b, _⟩ := h.bx; exact b
theorem OwnG.ty (h : OwnG base T size R cap w g l) : TyB T w g := by obtain ⟨_, _, _, _, _, _, b, _⟩ := h.bx; exact b.ty
theorem OwnG.free (h : OwnG base T size R cap w g l) (i : Nat) : w.frozen? ⟨g, i, none⟩ = false := by obtain ⟨_, _, _, _, _, _, b, _⟩ := h.bx; exact b.free i
theorem OwnG.gr (hR : Kept R) (h : OwnG base T size R cap w g l) {gs : List Nat} (hG : Gr gs w w') (hn : g ∉ gs) (hk : KeepD w w') : OwnG base T size R cap w' g l :=
  OwnR.gr hR h hG (fun k hk e => hn (by injection e with e; have e : g = k := e; subst e; exact hk)) hk
theorem OwnG.mono (hR : Kept R) (h : OwnG base T size R cap w g l) (hb : Below w.heap.size w w') : OwnG base T size R cap w' g l := OwnR.mono hR h hb
theorem OwnG.cell (h : OwnG base T size R cap w g l) {i : Nat} {x : α} (hx : l[i]? = some x) : ∃ cs, cs.length = size ∧ R w cs x ∧ ∀ j u, cs[j]? = some u → w.cell? ⟨g, i * size + j, none⟩ = some u := by
  obtain ⟨css, cur, h1, h2, h3, _, h4, hc, _, hs, ht⟩ := h.bx
  have hi := (List.getElem?_eq_some_iff.1 hx).1
  have hcs : css[i]? = some (css[i]'(by omega)) := List.getElem?_eq_getElem _
  have hl := h2 _ (List.getElem_mem (show i < css.length by omega))
  refine ⟨css[i]'(by omega), hl, h3 _ _ _ hcs hx, fun j u hu => h4.at _ ?_⟩
  have hj := (List.getElem?_eq_some_iff.1 hu).1
  have e := flat_get css h2 i j _ hcs (by omega)
  have hb : i * size + j < l.length * size := by
    have : (i + 1) * size ≤ l.length * size := Nat.mul_le_mul_right _ (by omega)
    rw [Nat.succ_mul] at this; omega
  rw [← ht, List.getElem?_take, if_pos hb] at e
  rw [← Array.getElem?_toList, e]
  exact hu
/-- A store of a cell of an element, blocks behind it. -/
theorem OwnG.put (hR : Kept R) (h : OwnG base T size R cap w g l) {i j : Nat} {x x' : α} (hx : l[i]? = some x) (hj : j < size) (hT : T ≠ 93 ∧ T ≠ 153) {u : Value} (hRx : ∀ (w : World) (cs : List Value), cs.length = size → R w cs x → R w (cs.set j u) x')
    (hG : Gr [] (w.setCell ⟨g, i * size + j, none⟩ u) w') : OwnG base T size R cap w' g (l.set i x') := by
  have hGk : Gr [g] w (w.setCell ⟨g, i * size + j, none⟩ u) := (Gr.refl [g] w).set
  have hk : KeepD w (w.setCell ⟨g, i * size + j, none⟩ u) := hGk.keep ⟨⟨T, h.ty, hT⟩, True.intro⟩
  suffices H : OwnG base T size R cap (w.setCell ⟨g, i * size + j, none⟩ u) g (l.set i x') from H.gr hR hG (by simp) (hG.keep True.intro)
  obtain ⟨css, cur, h1, h2, h3, hb, h4, hc, hm, hs, ht⟩ := h.bx
  have hi := (List.getElem?_eq_some_iff.1 hx).1
  have hcs : css[i]? = some (css[i]'(by omega)) := List.getElem?_eq_getElem _
  have hcl := h2 _ (List.getElem_mem (show i < css.length by omega))
  have hbi : i * size + j < l.length * size := by
    have : (i + 1) * size ≤ l.length * size := Nat.mul_le_mul_right _ (by omega)
    rw [Nat.succ_mul] at this; omega
  have hn2 : ∀ cs ∈ css.set i ((css[i]'(by omega)).set j u), cs.length = size := fun cs hm => by
    rcases List.mem_or_eq_of_mem_set hm with m | rfl
    · exact h2 _ m
    · rw [List.length_set]; exact hcl
  refine ⟨css.set i ((css[i]'(by omega)).set j u), by simp [h1], hn2, fun k cs y hc' hy => ?_, ?_, ?_⟩
  · rw [List.getElem?_set] at hc' hy
    by_cases e : i = k
    · subst e
      rw [if_pos rfl, if_pos (by omega)] at hc'
      rw [if_pos rfl, if_pos hi] at hy
      cases hc'; cases hy
      exact hRx _ _ hcl (hR _ _ _ _ (h3 _ _ _ hcs hx) hk)
    · rw [if_neg e] at hc' hy
      exact hR _ _ _ _ (h3 k cs y hc' hy) hk
  · rw [flat_length _ hn2]; simp [h1]
  · have hset := h4.set (i * size + j) u (cs' := cur.setIfInBounds (i * size + j) u) rfl
    refine .inr ⟨g, cap, _, by rw [List.length_set], hb, hset, by rw [List.length_set]; exact hc, hm, by simp [hs], ?_⟩
    rw [List.length_set]
    refine List.ext_getElem? fun k => ?_
    rw [flat_set css h2 i _ (by rw [List.length_set]; exact hcl) (by omega) k, ← ht]
    simp only [Array.toList_setIfInBounds, List.getElem?_take, List.getElem?_set, Array.length_toList]
    have hcap : l.length * size ≤ cap * size := Nat.mul_le_mul_right _ hc
    by_cases hk : k < l.length * size
    · rw [if_pos hk, if_pos hk]
      by_cases e : i * size + j = k
      · subst e
        rw [if_pos rfl, if_pos (by omega), if_pos (by omega), if_pos (by omega), if_pos (by omega)]
      · rw [if_neg e]
        by_cases e2 : i * size ≤ k ∧ k < i * size + size
        · rw [if_pos e2, if_neg (show ¬ j = k - i * size by omega)]
          have e3 := flat_get css h2 i (k - i * size) _ hcs (by omega)
          rw [show i * size + (k - i * size) = k by omega, ← ht, List.getElem?_take, if_pos hk] at e3
          rw [e3]
        · rw [if_neg e2]
    · rw [if_neg hk, if_neg hk]
      rw [if_neg (fun e2 => ?_)]
      have : (i + 1) * size ≤ l.length * size := Nat.mul_le_mul_right _ (by omega)
      rw [Nat.succ_mul] at this; omega
/-- The first k elements. -/
theorem OwnG.take (h : OwnG base T size R cap w g l) {k : Nat} (hk : k ≤ l.length) : OwnR base T size R w (.slice (some ⟨g, 0, none⟩) k cap) (l.take k) := by
  obtain ⟨css, cur, h1, h2, h3, hb, h4, hc, hm, hs, ht⟩ := h.bx
  have hlk : (l.take k).length = k := by rw [List.length_take]; omega
  have hn2 : ∀ cs ∈ css.take k, cs.length = size := fun cs hm => h2 _ (List.mem_of_mem_take hm)
  refine ⟨css.take k, by simp [h1], hn2, fun i cs x hc' hx => ?_, ?_, .inr ⟨g, cap, cur, by rw [hlk], hb, h4, by omega, hm, hs, ?_⟩⟩
  · rw [List.getElem?_take] at hc' hx
    split at hc'
    · rename_i hi
      rw [if_pos hi] at hx
      exact h3 _ _ _ hc' hx
    · cases hc'
  · rw [flat_length _ hn2]; simp [h1]
  · rw [hlk]
    refine List.ext_getElem? fun m => ?_
    have hf1 := flat_length _ hn2
    have hf2 := flat_length _ h2
    rw [List.getElem?_take]
    by_cases hmk : m < k * size
    · rw [if_pos hmk]
      have hkl : k * size ≤ l.length * size := Nat.mul_le_mul_right _ hk
      have e : cur.toList[m]? = css.flatten[m]? := by rw [← ht, List.getElem?_take, if_pos (by omega)]
      rw [e]
      have e2 : css.flatten = (css.take k).flatten ++ (css.drop k).flatten := by rw [← List.flatten_append, List.take_append_drop]
      rw [e2, List.getElem?_append_left (by rw [hf1, List.length_take]; rw [show min k css.length = k by omega]; exact hmk)]
    · rw [if_neg hmk, List.getElem?_eq_none (by rw [hf1, List.length_take, show min k css.length = k by omega]; omega)]
end
end Go.Proofs.Ytmnipggjjcmjkaa
