/-
  The reference's words for a step that runs into an obstacle.
-/
import Derived.Test.YtbnomdlojmgigaaGreatPlNF
import Derived.Test.YtbnomdlojmgigaaGreatPlMF
set_option linter.unusedSimpArgs false
set_option linter.unusedVariables false
namespace Go.Proofs.YtbnomdlojmgigaaGreat
open Go.RowKit Dg
attribute [local go_sem ↓] Go.wp_at_zero Go.wp_at_succ
end Go.Proofs.YtbnomdlojmgigaaGreat
namespace Go.Proofs.YtbnomdlojmgigaaGreat
def swE (path : List Pt) (w h : Int) (obs : List Bxx) : Int :=
  if path.length < 2 ∨ 32 < path.length then 4 else if path.all rtB = false then 1 else if w < 1 ∨ 1048576 < w ∨ h < 1 ∨ 1048576 < h then 1 else bxsE obs
def SwO (path : List Pt) (w h : Int) (obs : List Bxx) (i k : Int) : Prop := (swE path w h obs ≠ 0 → i = 0 ∧ k = 0) ∧ (swE path w h obs = 0 → SwR path w h obs i k)
theorem sw_first (P : Nat → Prop) : ∀ n : Nat, (∃ k, k < n ∧ P k ∧ ∀ j, j < k → ¬ P j) ∨ ∀ j, j < n → ¬ P j
  | 0 => .inr fun j h => absurd h (Nat.not_lt_zero j)
  | n + 1 => by
    rcases sw_first P n with ⟨k, hk, hp, ho⟩ | hn
    · exact .inl ⟨k, by omega, hp, ho⟩
    · by_cases hp : P n
      · exact .inl ⟨n, by omega, hp, hn⟩
      · refine .inr fun j h => ?_
        rcases Nat.lt_or_eq_of_le (Nat.le_of_lt_succ h) with h | rfl
        · exact hn j h
        · exact hp
theorem sw_ex (path : List Pt) (w h : Int) (obs : List Bxx) : ∃ i k, SwR path w h obs i k := by
  rcases sw_first (fun a => ∃ b, b < obs.length ∧ hitN path w h obs a b = true) (path.length - 1) with ⟨a, ha, ⟨b0, hb0, hh0⟩, ho⟩ | hn
  · rcases sw_first (fun b => hitN path w h obs a b = true) obs.length with ⟨b, hb, hh, hf⟩ | hn
    · exact ⟨a, b, .inr ⟨a, b, rfl, rfl, by omega, hb, hh, fun c d hc hd => Bool.eq_false_iff.2 fun hx => ho c hc ⟨d, hd, hx⟩, fun d hd => Bool.eq_false_iff.2 (hf d hd)⟩⟩
    · exact absurd hh0 (hn b0 hb0)
  · exact ⟨-1, -1, .inl ⟨rfl, rfl, fun a b ha hb => Bool.eq_false_iff.2 fun hx => hn a (by omega) ⟨b, hb, hx⟩⟩⟩
theorem swo_ex (path : List Pt) (w h : Int) (obs : List Bxx) : ∃ i k, SwO path w h obs i k := by
  by_cases e : swE path w h obs = 0
  · obtain ⟨i, k, hs⟩ := sw_ex path w h obs
    exact ⟨i, k, fun h => absurd e h, fun _ => hs⟩
  · exact ⟨0, 0, fun _ => ⟨rfl, rfl⟩, fun h => absurd h e⟩
theorem all_at {l : List Pt} : (∀ j, j < l.length → rtB (ptZ l j) = true) → l.all rtB = true := by
  intro h
  rw [List.all_eq_true]
  intro p hp
  obtain ⟨j, hj, rfl⟩ := List.mem_iff_getElem.1 hp
  have := h j hj
  unfold ptZ at this
  rwa [List.getD_eq_getElem?_getD, List.getElem?_eq_getElem hj] at this
theorem all_not {l : List Pt} {k : Nat} (hk : k < l.length) (h : rtB (ptZ l k) = false) : l.all rtB = false := by
  rw [List.all_eq_false]
  refine ⟨ptZ l k, ?_, by rw [h]; decide⟩
  unfold ptZ
  rw [List.getD_eq_getElem?_getD, List.getElem?_eq_getElem hk]
  exact List.getElem_mem hk
variable {path : List Pt} {w h : Int} {obs : List Bxx} {i k : Int}
theorem sw_1 (g : SwO path w h obs i k) (hl : path.length < 2 ∨ 32 < path.length) : i = 0 ∧ k = 0 ∧ swE path w h obs = 4 := by
  have e : swE path w h obs = 4 := if_pos hl
  have := g.1 (by rw [e]; decide)
  exact ⟨this.1, this.2, e⟩
theorem sw_2 (g : SwO path w h obs i k) (hl : ¬ (path.length < 2 ∨ 32 < path.length)) {a : Nat} (ha : a < path.length) (hr : rtB (ptZ path a) = false) : i = 0 ∧ k = 0 ∧ swE path w h obs = 1 := by
  have e : swE path w h obs = 1 := (if_neg hl).trans (if_pos (all_not ha hr))
  have := g.1 (by rw [e]; decide)
  exact ⟨this.1, this.2, e⟩
theorem sw_3 (g : SwO path w h obs i k) (hl : ¬ (path.length < 2 ∨ 32 < path.length)) (hr : ∀ j, j < path.length → rtB (ptZ path j) = true) (hw : w < 1 ∨ 1048576 < w ∨ h < 1 ∨ 1048576 < h) : i = 0 ∧ k = 0 ∧ swE path w h obs = 1 := by
  have e : swE path w h obs = 1 := (if_neg hl).trans ((if_neg (by rw [all_at hr]; decide)).trans (if_pos hw))
  have := g.1 (by rw [e]; decide)
  exact ⟨this.1, this.2, e⟩
theorem sw_4 (hl : ¬ (path.length < 2 ∨ 32 < path.length)) (hr : ∀ j, j < path.length → rtB (ptZ path j) = true) (hw : ¬ (w < 1 ∨ 1048576 < w ∨ h < 1 ∨ 1048576 < h)) : swE path w h obs = bxsE obs :=
  (if_neg hl).trans ((if_neg (by rw [all_at hr]; decide)).trans (if_neg hw))
theorem sw_5 (g : SwO path w h obs i k) (hl : ¬ (path.length < 2 ∨ 32 < path.length)) (hr : ∀ j, j < path.length → rtB (ptZ path j) = true) (hw : ¬ (w < 1 ∨ 1048576 < w ∨ h < 1 ∨ 1048576 < h)) (hb : bxsE obs ≠ 0) : i = 0 ∧ k = 0 ∧ swE path w h obs = bxsE obs := by
  have e := sw_4 (obs := obs) hl hr hw
  have := g.1 (by rw [e]; exact hb)
  exact ⟨this.1, this.2, e⟩
theorem sw_6 (g : SwO path w h obs i k) (e : swE path w h obs = 0) {a b : Nat} (ha : a + 1 < path.length) (hb : b < obs.length) (hh : hitN path w h obs a b = true) (hf : ∀ c d, c < a → d < obs.length → hitN path w h obs c d = false) (ho : ∀ d, d < b → hitN path w h obs a d = false) : i = a ∧ k = b :=
  (g.2 e).uniq (.inr ⟨a, b, rfl, rfl, ha, hb, hh, hf, ho⟩)
theorem sw_7 (g : SwO path w h obs i k) (e : swE path w h obs = 0) (hn : ∀ a b, a + 1 < path.length → b < obs.length → hitN path w h obs a b = false) : i = -1 ∧ k = -1 :=
  (g.2 e).uniq (.inl ⟨rfl, rfl, hn⟩)
end Go.Proofs.YtbnomdlojmgigaaGreat
