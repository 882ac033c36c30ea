/-
  A block that holds the elements of a list, one behind the other, and into which is stored at an index that is a number of the walk. No function of the program is in sight here.
-/
import Derived.Test.YtkfekkhhfpkfaaaOwn2
import Derived.Laws.MakeOwn
set_option linter.unusedSimpArgs false
set_option linter.unusedVariables false
namespace Go.Proofs.Ytkfekkhhfpkfaaa
open Go.RowKit Dg

/-- The block g holds the elements l, and nothing else. -/
def VecR {α : Type} (T : TypeId) (size : Nat) (R : World → List Value → α → Prop) (w : World) (g : Nat) (l : List α) : Prop :=
  ∃ css : List (List Value), css.length = l.length ∧ (∀ cs ∈ css, cs.length = size) ∧ (∀ (i : Nat) (cs : List Value) (x : α), css[i]? = some cs → l[i]? = some x → R w cs x) ∧ Bx w g T css.flatten.toArray
theorem flat_set {size : Nat} : ∀ (css : List (List Value)), (∀ cs ∈ css, cs.length = size) → ∀ (i : Nat) (cs' : List Value), cs'.length = size → i < css.length → ∀ j, (css.set i cs').flatten[j]? = if i * size ≤ j ∧ j < i * size + size then cs'[j - i * size]? else css.flatten[j]?
  | [], _, i, _, _, h, _ => by simp at h
  | c :: r, hs, 0, cs', hc, _, j => by
    have hl : c.length = size := hs c (by simp)
    simp only [List.set_cons_zero, List.flatten_cons, Nat.zero_mul, Nat.zero_le, true_and, Nat.zero_add, Nat.sub_zero]
    by_cases e : j < size
    · rw [if_pos e, List.getElem?_append_left (by omega)]
    · rw [if_neg e, List.getElem?_append_right (by omega), List.getElem?_append_right (by omega), hc, hl]
  | c :: r, hs, i + 1, cs', hc, h, j => by
    have hl : c.length = size := hs c (by simp)
    have hm : (i + 1) * size = i * size + size := Nat.succ_mul i size
    rw [List.set_cons_succ, List.flatten_cons, List.flatten_cons]
    by_cases e : j < size
    · rw [List.getElem?_append_left (by omega), List.getElem?_append_left (by omega), if_neg (by omega)]
    · rw [List.getElem?_append_right (by omega), List.getElem?_append_right (by omega), hl, flat_set r (fun x hx => hs x (List.mem_cons_of_mem _ hx)) i cs' hc (by simpa using h) (j - size), hm]
      by_cases e2 : i * size ≤ j - size ∧ j - size < i * size + size
      · rw [if_pos e2, if_pos (by omega), show j - size - i * size = j - (i * size + size) by omega]
      · rw [if_neg e2, if_neg (by omega)]
section
variable {α : Type} {T : TypeId} {size : Nat} {R : World → List Value → α → Prop} {w w' : World} {g : Nat} {l : List α}
theorem VecR.bx (h : VecR T size R w g l) : ∃ cs, Bx w g T cs := by obtain ⟨_, _, _, _, h⟩ := h; exact ⟨_, h⟩
theorem VecR.lt (h : VecR T size R w g l) : g < w.heap.size := by obtain ⟨_, h⟩ := h.bx; exact h.lt
theorem VecR.ty (h : VecR T size R w g l) : TyB T w g := by obtain ⟨_, h⟩ := h.bx; exact h.ty
theorem VecR.free (h : VecR T size R w g l) (i : Nat) : w.frozen? ⟨g, i, none⟩ = false := by obtain ⟨_, h⟩ := h.bx; exact h.free i
theorem VecR.gr (hR : Kept R) (h : VecR T size R w g l) {gs : List Nat} (hG : Gr gs w w') (hn : g ∉ gs) (hk : KeepD w w') : VecR T size R w' g l := by
  obtain ⟨css, h1, h2, h3, h4⟩ := h
  exact ⟨css, h1, h2, fun i cs x hc hx => hR _ _ _ _ (h3 i cs x hc hx) hk, hG.bx h4 hn⟩
theorem VecR.mono (hR : Kept R) (h : VecR T size R w g l) (hb : Below w.heap.size w w') : VecR T size R w' g l := by
  obtain ⟨css, h1, h2, h3, h4⟩ := h
  exact ⟨css, h1, h2, fun i cs x hc hx => hR _ _ _ _ (h3 i cs x hc hx) (.of_below hb), h4.mono hb⟩
theorem VecR.onlyT (hR : Kept R) {t : TypeId} (h : VecR T size R w g l) (ho : OnlyT t w w') (hne : t ≠ T) (hd : t ≠ 90 ∧ t ≠ 133) : VecR T size R w' g l := by
  obtain ⟨css, h1, h2, h3, h4⟩ := h
  exact ⟨css, h1, h2, fun i cs x hc hx => hR _ _ _ _ (h3 i cs x hc hx) (.of_only ho hd), h4.only ho hne⟩
theorem VecR.cell (h : VecR T size R w g l) {i : Nat} {x : α} (hx : l[i]? = some x) : ∃ cs, cs.length = size ∧ R w cs x ∧ ∀ j u, cs[j]? = some u → w.cell? ⟨g, i * size + j, none⟩ = some u := by
  obtain ⟨css, h1, h2, h3, h4⟩ := h
  have hi := (List.getElem?_eq_some_iff.1 hx).1
  have hc : css[i]? = some (css[i]'(by omega)) := List.getElem?_eq_getElem _
  have hl := h2 _ (List.getElem_mem (show i < css.length by omega))
  refine ⟨css[i]'(by omega), hl, h3 _ _ _ hc hx, fun j u hu => h4.at _ ?_⟩
  have hj := (List.getElem?_eq_some_iff.1 hu).1
  rw [List.getElem?_toArray, flat_get css h2 i j _ hc (by omega)]
  exact hu
/-- A slice of the whole block. -/
theorem VecR.rows (h : VecR T size R w g l) (hl : l.length ≤ 9223372036854775807) : Rows size T R w (.slice (some ⟨g, 0, none⟩) l.length l.length) l := by
  refine ⟨_, _, rfl, Nat.le_refl _, hl, (fun e => by cases e), (fun a ea _ => by cases ea; exact h.ty), fun i x hx => ?_⟩
  obtain ⟨cs, h1, h2, h3⟩ := h.cell hx
  refine ⟨g, 0, cs, rfl, h1, fun j u hu => ?_, h2⟩
  have := h3 j u hu
  rw [Nat.zero_add]; exact this
theorem VecR.set3 {R : World → List Value → α → Prop} (hR : Kept R) (h : VecR T 3 R w g l) {i : Nat} (hi : i < l.length) {a b c : Value} {x : α} (hk : KeepD w w') (hx : R w' [a, b, c] x)
    (hw : w' = ((w.setCell ⟨g, i * 3, none⟩ a).setCell ⟨g, i * 3 + 1, none⟩ b).setCell ⟨g, i * 3 + 2, none⟩ c) : VecR T 3 R w' g (l.set i x) := by
  obtain ⟨css, h1, h2, h3, h4⟩ := h
  have hf := flat_length css h2
  refine ⟨css.set i [a, b, c], by simp [h1], fun cs hcs => ?_, fun j cs y hc hy => ?_, ?_⟩
  · rcases List.mem_or_eq_of_mem_set hcs with m | rfl
    · exact h2 _ m
    · rfl
  · rw [List.getElem?_set] at hc hy
    by_cases e : i = j
    · subst e
      rw [if_pos rfl, if_pos (by omega)] at hc
      rw [if_pos rfl, if_pos hi] at hy
      cases hc; cases hy; exact hx
    · rw [if_neg e] at hc hy
      exact hR _ _ _ _ (h3 j cs y hc hy) hk
  · rw [hw]
    refine (((h4.set _ _ rfl).set _ _ rfl).set _ _ ?_)
    apply Array.toList_inj.1
    simp only [Array.toList_setIfInBounds]
    refine List.ext_getElem? fun j => ?_
    rw [flat_set css h2 i _ rfl (by omega) j]
    simp only [List.getElem?_set, List.length_set]
    have hb : i * 3 + 3 ≤ css.flatten.length := by rw [hf]; omega
    by_cases e0 : j = i * 3
    · subst e0
      rw [if_neg (by omega), if_neg (by omega), if_pos rfl, if_pos (by omega), if_pos (by omega), Nat.sub_self]; rfl
    · by_cases e1 : j = i * 3 + 1
      · subst e1
        rw [if_neg (by omega), if_pos rfl, if_pos (by omega), if_pos (by omega), show i * 3 + 1 - i * 3 = 1 by omega]; rfl
      · by_cases e2 : j = i * 3 + 2
        · subst e2
          rw [if_pos rfl, if_pos (by omega), if_pos (by omega), show i * 3 + 2 - i * 3 = 2 by omega]; rfl
        · rw [if_neg (by omega), if_neg (by omega), if_neg (by omega), if_neg (by omega)]
theorem VecR.set1 {R : World → List Value → α → Prop} (hR : Kept R) (h : VecR T 1 R w g l) {i : Nat} (hi : i < l.length) {a : Value} {x : α} (hk : KeepD w w') (hx : R w' [a] x)
    (hw : w' = w.setCell ⟨g, i, none⟩ a) : VecR T 1 R w' g (l.set i x) := by
  obtain ⟨css, h1, h2, h3, h4⟩ := h
  have hf := flat_length css h2
  refine ⟨css.set i [a], by simp [h1], fun cs hcs => ?_, fun j cs y hc hy => ?_, ?_⟩
  · rcases List.mem_or_eq_of_mem_set hcs with m | rfl
    · exact h2 _ m
    · rfl
  · rw [List.getElem?_set] at hc hy
    by_cases e : i = j
    · subst e
      rw [if_pos rfl, if_pos (by omega)] at hc
      rw [if_pos rfl, if_pos hi] at hy
      cases hc; cases hy; exact hx
    · rw [if_neg e] at hc hy
      exact hR _ _ _ _ (h3 j cs y hc hy) hk
  · rw [hw]
    refine h4.set _ _ ?_
    apply Array.toList_inj.1
    simp only [Array.toList_setIfInBounds]
    refine List.ext_getElem? fun j => ?_
    rw [flat_set css h2 i _ rfl (by omega) j]
    simp only [List.getElem?_set]
    have hb : i * 1 + 1 ≤ css.flatten.length := by rw [hf]; omega
    by_cases e0 : j = i
    · subst e0
      rw [if_pos rfl, if_pos (by omega), if_pos (by omega), Nat.mul_one, Nat.sub_self]; rfl
    · rw [if_neg (by omega), if_neg (by omega)]
/-- A store of a whole element, blocks behind it. -/
theorem VecR.put3 {R : World → List Value → α → Prop} (hR : Kept R) (h : VecR T 3 R w g l) {i : Nat} (hi : i < l.length) (hT : T ≠ 90 ∧ T ≠ 133) {a b c : Value} {x : α} (hx : R w [a, b, c] x)
    (hG : Gr [] (((w.setCell ⟨g, i * 3, none⟩ a).setCell ⟨g, i * 3 + 1, none⟩ b).setCell ⟨g, i * 3 + 2, none⟩ c) w') : VecR T 3 R w' g (l.set i x) := by
  have hk : KeepD w (((w.setCell ⟨g, i * 3, none⟩ a).setCell ⟨g, i * 3 + 1, none⟩ b).setCell ⟨g, i * 3 + 2, none⟩ c) := (((Gr.refl [g] w).set.set.set : Gr [g] w _)).keep ⟨⟨T, h.ty, hT⟩, True.intro⟩
  have h' := h.set3 hR hi hk (hR _ _ _ _ hx hk) rfl
  exact h'.gr hR hG (by simp) (hG.keep True.intro)
theorem VecR.put1 {R : World → List Value → α → Prop} (hR : Kept R) (h : VecR T 1 R w g l) {i : Nat} (hi : i < l.length) (hT : T ≠ 90 ∧ T ≠ 133) {a : Value} {x : α} (hx : R w [a] x)
    (hG : Gr [] (w.setCell ⟨g, i, none⟩ a) w') : VecR T 1 R w' g (l.set i x) := by
  have hk : KeepD w (w.setCell ⟨g, i, none⟩ a) := ((Gr.refl [g] w).set : Gr [g] w _).keep ⟨⟨T, h.ty, hT⟩, True.intro⟩
  have h' := h.set1 hR hi hk (hR _ _ _ _ hx hk) rfl
  exact h'.gr hR hG (by simp) (hG.keep True.intro)
theorem made_at {z : Array Value} {n i : Nat} (hi : i < n) : (madeCells z n).toList[i]? = some (z[i % z.size]!) := by
  unfold madeCells
  simp [hi]
/-- What 'make' lays. -/
theorem VecR.made {base : Nat} {T : TypeId} {n : Nat} {z0 z1 z2 : Value} {R : World → List Value → α → Prop} {x : α} (h : w.ownsRow base T 3 (.slice (some ⟨g, 0, none⟩) n n) n (madeCells #[z0, z1, z2] (n * 3)).toList) (hn : 0 < n) (hx : R w [z0, z1, z2] x) : VecR T 3 R w g (List.replicate n x) := by
  obtain ⟨h1, h2⟩ := h
  rcases h2 with ⟨e, _⟩ | ⟨g', cap, cur, hv, _, hg, _, _, hs, ht⟩
  · cases e
  · injection hv with e1 e2 e3
    injection e1 with e1
    injection e1 with e1 _
    subst e1 e3
    refine ⟨List.replicate n [z0, z1, z2], by simp, fun cs hcs => ?_, fun i cs y hc hy => ?_, ?_⟩
    · rw [(List.mem_replicate.1 hcs).2]; rfl
    · have h1 := List.mem_of_getElem? hc
      have h2 := List.mem_of_getElem? hy
      rw [(List.mem_replicate.1 h1).2, (List.mem_replicate.1 h2).2]; exact hx
    · unfold Bx
      have e : cur = (List.replicate n [z0, z1, z2]).flatten.toArray := by
        apply Array.toList_inj.1
        rw [List.toList_toArray]
        have hl : (List.replicate n [z0, z1, z2]).flatten.length = n * 3 := by
          rw [flat_length (size := 3) _ (fun cs hcs => by rw [(List.mem_replicate.1 hcs).2]; rfl), List.length_replicate]
        rw [List.take_of_length_le (by rw [Array.length_toList]; omega)] at ht
        rw [ht]
        refine List.ext_getElem? fun j => ?_
        by_cases hj : j < n * 3
        · rw [made_at hj]
          have hd := Nat.div_add_mod j 3
          have hm := Nat.mod_lt j (show 0 < 3 by decide)
          have hi : j / 3 < n := by omega
          have hq : (List.replicate n [z0, z1, z2])[j / 3]? = some [z0, z1, z2] := by rw [List.getElem?_replicate, if_pos hi]
          have := flat_get (size := 3) _ (fun cs hcs => by rw [(List.mem_replicate.1 hcs).2]; rfl) (j / 3) (j % 3) _ hq hm
          rw [show j / 3 * 3 + j % 3 = j by omega] at this
          rw [this]
          show some (#[z0, z1, z2][j % 3]!) = _
          rcases (show j % 3 = 0 ∨ j % 3 = 1 ∨ j % 3 = 2 by omega) with e | e | e <;> rw [e] <;> rfl
        · rw [List.getElem?_eq_none (by rw [Array.length_toList, size_madeCells]; omega), List.getElem?_eq_none (by rw [hl]; omega)]
      rw [← e]; exact hg
end
theorem vecP_at {w : World} {T : TypeId} {g : Nat} {L : List Rat} {i : Nat} (h : VecR T 3 PC w g L) (hi : i < L.length) :
    ∃ s a n c A N D, w.cell? ⟨g, i * 3, none⟩ = some (.bool s) ∧ w.cell? ⟨g, i * 3 + 1, none⟩ = some (.slice a n c) ∧ w.cell? ⟨g, i * 3 + 2, none⟩ = some (.slice A N D) ∧ PV w (.agg #[.bool s, .slice a n c, .slice A N D]) (nthQ L i) ∧ g < w.heap.size := by
  obtain ⟨cs, _, hr, hat⟩ := h.cell (nthQ_some hi)
  obtain ⟨s, a, n, c, A, N, D, rfl, hp⟩ := hr.cells
  exact ⟨s, a, n, c, A, N, D, hat 0 _ rfl, hat 1 _ rfl, hat 2 _ rfl, hp, h.lt⟩
theorem vecR_at {w : World} {T : TypeId} {g : Nat} {L : List Rat} {i : Nat} (h : VecR T 3 RC w g L) (hi : i < L.length) :
    ∃ s a n c A N D, w.cell? ⟨g, i * 3, none⟩ = some (.bool s) ∧ w.cell? ⟨g, i * 3 + 1, none⟩ = some (.slice a n c) ∧ w.cell? ⟨g, i * 3 + 2, none⟩ = some (.slice A N D) ∧ RV w (.agg #[.bool s, .slice a n c, .slice A N D]) (nthQ L i) ∧ g < w.heap.size := by
  obtain ⟨cs, _, hr, hat⟩ := h.cell (nthQ_some hi)
  obtain ⟨s, a, n, c, A, N, D, rfl, hp⟩ := hr.cells
  exact ⟨s, a, n, c, A, N, D, hat 0 _ rfl, hat 1 _ rfl, hat 2 _ rfl, hp, h.lt⟩
end Go.Proofs.Ytkfekkhhfpkfaaa
