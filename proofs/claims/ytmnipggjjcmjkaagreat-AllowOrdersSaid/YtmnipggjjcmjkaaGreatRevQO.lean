/-
  slices.Reverse at an own slice of fractions, by the shelf's contract.
-/
import Derived.Test.YtmnipggjjcmjkaaGreatSortQO
import Derived.Test.YtmnipggjjcmjkaaGreatPkVecO
import Derived.Shelf.SlicesQ.Reverse
set_option linter.unusedSimpArgs false
set_option linter.unusedVariables false
namespace Go.Proofs.YtmnipggjjcmjkaaGreat
open Go.RowKit Dg Go.Sort Go.Shelf

theorem sl_RevQ {base cap g : Nat} {L : List Rat} (w : World) (h : OwnG base 29 3 PC cap w g L) (h1 : 1 ≤ L.length) (h2 : L.length ≤ 1000) (hz : ∀ i, i < L.length → SzQ 100000 (nthQ L i)) :
    Calls Tryz.prog 51 #[.slice (some ⟨g, 0, none⟩) L.length cap] w (fun e w' => e = .returned (.tuple #[]) ∧ OwnG base 29 3 PC cap w' g L.reverse ∧ Gr [g] w w') := by
  obtain ⟨g', cap', xs, hv, hb, ht, hq, hH, hcap, hmax, cur, hg, hcur⟩ := ownQ h h1 hz
  injection hv with e1 e2 e3
  injection e1 with e1
  injection e1 with e1 _
  subst e1 e3
  have hcon := AnyQ.slices_Reverse Tryz.revL 3 Tryz.isAgg29 Tryz.sizeOf29 (encQ (w0 := w)) encQ_len encQ_one g 0 cap xs.toArray w hH (by rw [← e2]; omega)
  rw [← e2] at hcon
  change Calls Tryz.prog 51 _ _ _ at hcon
  refine hcon.mono ?_
  rintro e w' ⟨rfl, n, rfl⟩
  have es : putRowK encQ 3 (Sort.ahead w n) g 0 xs.toArray.reverse = sortWorldK encQ 3 w g 0 n xs.toArray.reverse #[] := by unfold sortWorldK; rw [grow_empty]
  rw [es]
  have := ownQ_put (m := n) (os := #[]) (d := xs.toArray.reverse) hb hg hcap hmax hcur (by simp)
  rw [show (xs.toArray.reverse.toList.map qOf) = L.reverse from by rw [← hq]; simp, ← e2] at this
  refine ⟨rfl, ?_, ⟨rfl, rfl, rfl, (sortW_below encQ 3 w g 0 n _ #[] (Nat.zero_le _) ht.lt).size, fun k hk hn => sortW_block encQ 3 w g 0 n _ #[] hk (fun e => hn (by rw [e]; exact .head _))⟩⟩
  unfold OwnG
  rw [List.length_reverse]
  exact this
theorem OwnG.rows {α : Type} {base : Nat} {T : TypeId} {size : Nat} {R : World → List Value → α → Prop} {w : World} {g cap : Nat} {l : List α} (h : OwnG base T size R cap w g l) : Rows size T R w (.slice (some ⟨g, 0, none⟩) l.length cap) l := OwnR.rows h
theorem ownP_at {w : World} {base : Nat} {T : TypeId} {cap g : Nat} {L : List Rat} {i : Nat} (h : OwnG base T 3 PC cap w g L) (hi : i < L.length) :
    ∃ g' a n' c' A N D, w.cell? ⟨g, i * 3, none⟩ = some (.bool g') ∧ w.cell? ⟨g, i * 3 + 1, none⟩ = some (.slice a n' c') ∧ w.cell? ⟨g, i * 3 + 2, none⟩ = some (.slice A N D) ∧ PV w (.agg #[.bool g', .slice a n' c', .slice A N D]) (nthQ L i) ∧ g < w.heap.size := by
  obtain ⟨cs, _, hc, hat⟩ := h.cell (nthQ_some hi)
  obtain ⟨g', a, n, c, A, N, D, rfl, hp⟩ := hc.cells
  exact ⟨g', a, n, c, A, N, D, hat 0 _ rfl, hat 1 _ rfl, hat 2 _ rfl, hp, h.lt⟩
/-- A store of a whole element, blocks behind it. -/
theorem OwnG.put3 {α : Type} {base : Nat} {T : TypeId} {R : World → List Value → α → Prop} {w w' : World} {g cap : Nat} {l : List α} (hR : Kept R) (h : OwnG base T 3 R cap w g l) {i : Nat} (hi : i < l.length) (hT : T ≠ 176 ∧ T ≠ 212) {a b c : Value} {x : α} (hx : R w [a, b, c] x)
    (hG : Gr [] (((w.setCell ⟨g, i * 3, none⟩ a).setCell ⟨g, i * 3 + 1, none⟩ b).setCell ⟨g, i * 3 + 2, none⟩ c) w') : OwnG base T 3 R cap w' g (l.set i x) := by
  have hk : KeepD w (((w.setCell ⟨g, i * 3, none⟩ a).setCell ⟨g, i * 3 + 1, none⟩ b).setCell ⟨g, i * 3 + 2, none⟩ c) := (((Gr.refl [g] w).set.set.set : Gr [g] w _)).keep ⟨⟨T, h.ty, hT⟩, True.intro⟩
  suffices H : OwnG base T 3 R cap (((w.setCell ⟨g, i * 3, none⟩ a).setCell ⟨g, i * 3 + 1, none⟩ b).setCell ⟨g, i * 3 + 2, none⟩ c) g (l.set i x) from H.gr hR hG (by simp) (hG.keep True.intro)
  obtain ⟨css, cur, h1, h2, h3, hb, h4, hc, hm, hs, ht⟩ := h.bx
  have hf := flat_length css h2
  have hn2 : ∀ cs ∈ css.set i [a, b, c], cs.length = 3 := fun cs hcs => by
    rcases List.mem_or_eq_of_mem_set hcs with m | rfl
    · exact h2 _ m
    · rfl
  refine ⟨css.set i [a, b, c], by simp [h1], hn2, fun j cs y hc' hy => ?_, ?_, ?_⟩
  · rw [List.getElem?_set] at hc' hy
    by_cases e : i = j
    · subst e
      rw [if_pos rfl, if_pos (by omega)] at hc'
      rw [if_pos rfl, if_pos hi] at hy
      cases hc'; cases hy; exact hR _ _ _ _ hx hk
    · rw [if_neg e] at hc' hy
      exact hR _ _ _ _ (h3 j cs y hc' hy) hk
  · rw [flat_length _ hn2]; simp [h1]
  · have hset := ((h4.set (i * 3) a (cs' := cur.setIfInBounds (i * 3) a) rfl).set (i * 3 + 1) b rfl).set (i * 3 + 2) c rfl
    refine .inr ⟨g, cap, _, by rw [List.length_set], hb, hset, by rw [List.length_set]; exact hc, hm, by simp [hs], ?_⟩
    rw [List.length_set]
    refine List.ext_getElem? fun j => ?_
    rw [flat_set css h2 i _ rfl (by omega) j, ← ht]
    simp only [Array.toList_setIfInBounds, List.getElem?_take, List.getElem?_set, List.length_set, Array.length_toList]
    have hcap : l.length * 3 ≤ cap * 3 := Nat.mul_le_mul_right _ hc
    by_cases hj : j < l.length * 3
    · rw [if_pos hj, if_pos hj]
      by_cases e0 : j = i * 3
      · subst e0
        rw [if_neg (by omega), if_neg (by omega), if_pos rfl, if_pos (by omega), if_pos (by omega), Nat.sub_self]; rfl
      · by_cases e1 : j = i * 3 + 1
        · subst e1
          rw [if_neg (by omega), if_pos rfl, if_pos (by omega), if_pos (by omega), show i * 3 + 1 - i * 3 = 1 by omega]; rfl
        · by_cases e2 : j = i * 3 + 2
          · subst e2
            rw [if_pos rfl, if_pos (by omega), if_pos (by omega), show i * 3 + 2 - i * 3 = 2 by omega]; rfl
          · rw [if_neg (by omega), if_neg (by omega), if_neg (by omega), if_neg (by omega)]
    · rw [if_neg hj, if_neg (by omega), if_neg hj]
end Go.Proofs.YtmnipggjjcmjkaaGreat
