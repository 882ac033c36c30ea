/-
  PlaneFree: the path turned round, a step alone: plain; a part of a list that came in.
-/
import Derived.Test.YtbnomdlojmgigaaGreatPkB20F
import Derived.Test.YtbnomdlojmgigaaGreatPkB1F
set_option linter.unusedSimpArgs false
set_option linter.unusedVariables false
namespace Go.Proofs.YtbnomdlojmgigaaGreat
open Dg
theorem swE_rev (path : List Pt) (u v : Int) (obs : List Bxx) : swE path.reverse u v obs = swE path u v obs := by
  unfold swE
  rw [List.length_reverse, List.all_reverse]
theorem swE_ok {path : List Pt} {u v : Int} {obs : List Bxx} (h : swE path u v obs = 0) : (2 ≤ path.length ∧ path.length ≤ 32) ∧ (∀ p ∈ path, rtB p = true) ∧ (1 ≤ u ∧ u ≤ 1048576 ∧ 1 ≤ v ∧ v ≤ 1048576) ∧ bxsE obs = 0 := by
  unfold swE at h
  split at h
  · cases h
  · rename_i h1
    split at h
    · cases h
    · rename_i h2
      split at h
      · cases h
      · rename_i h3
        refine ⟨by omega, ?_, by omega, h⟩
        have h2 : path.all rtB = true := by cases hx : path.all rtB <;> simp_all
        exact List.all_eq_true.1 h2
theorem ptZ_mem {l : List Pt} {k : Nat} (h : k < l.length) : ptZ l k ∈ l := by
  unfold ptZ
  rw [List.getD_eq_getElem?_getD, List.getElem?_eq_getElem h]
  exact List.getElem_mem h
theorem bxsE_one {obs : List Bxx} (h : bxsE obs = 0) {k : Nat} (hk : k < obs.length) : bxsE [bxZ obs k] = 0 := by
  have h0 : ∀ o ∈ obs, bxE o = 0 := by
    unfold bxsE at h
    split at h
    · cases h
    · exact fs_ok h
  have e := h0 _ (bxZ_mem hk)
  show (if 24 < 1 then 4 else fsE [bxZ obs k]) = 0
  rw [if_neg (by decide)]
  show (if bxE (bxZ obs k) = 0 then (0 : Int) else bxE (bxZ obs k)) = 0
  rw [if_pos e]
theorem swE_alone {path : List Pt} {u v : Int} {obs : List Bxx} (h : swE path u v obs = 0) {i k : Nat} (hi : i + 1 < path.length) (hk : k < obs.length) : swE [ptZ path i, ptZ path (i + 1)] u v [bxZ obs k] = 0 := by
  obtain ⟨_, hr, hu, hb⟩ := swE_ok h
  unfold swE
  rw [if_neg (by simp), if_neg (by simp [hr _ (ptZ_mem (show i < path.length by omega)), hr _ (ptZ_mem hi)]), if_neg (by omega)]
  exact bxsE_one hb hk
theorem swo_alone {path : List Pt} {u v : Int} {obs : List Bxx} {a b : Nat} (h : swE path u v obs = 0) (hg : SwO path u v obs a b) : a + 1 < path.length ∧ b < obs.length ∧ SwO [ptZ path a, ptZ path (a + 1)] u v [bxZ obs b] 0 0 ∧ swE [ptZ path a, ptZ path (a + 1)] u v [bxZ obs b] = 0 := by
  rcases hg.2 h with ⟨h1, _, _⟩ | ⟨c, d, h1, h2, ha, hb, hh, _, _⟩
  · omega
  · obtain rfl : a = c := by omega
    obtain rfl : b = d := by omega
    have e := swE_alone h ha hb
    exact ⟨ha, hb, ⟨fun hn => absurd e hn, fun _ => sw_alone hh⟩, e⟩
theorem swo_turn {path : List Pt} {u v : Int} {obs : List Bxx} {i k j m : Int} (h : swE path u v obs = 0) (h1 : SwO path u v obs i k) (h2 : SwO path.reverse u v obs j m) : i < 0 ↔ j < 0 :=
  sw_turn (h1.2 h) (h2.2 ((swE_rev ..).trans h))
theorem swo_neg {path : List Pt} {u v : Int} {obs : List Bxx} {i k : Int} (h : swE path u v obs = 0) (h1 : SwO path u v obs i k) : (i < 0 ↔ k < 0) ∧ i < path.length - 1 ∧ k < obs.length := by
  have := (h1.2 h).neg
  have hl := (swE_ok h).1
  exact ⟨this.1, this.2.2.1 (by omega), this.2.2.2⟩
theorem swo_int {path : List Pt} {u v : Int} {obs : List Bxx} {i k : Int} (h : swE path u v obs = 0) (h1 : SwO path u v obs i k) : -1 ≤ i ∧ -1 ≤ k := by
  rcases h1.2 h with ⟨rfl, rfl, _⟩ | ⟨c, d, rfl, rfl, _⟩ <;> omega
theorem swo_free {path : List Pt} {u v : Int} {obs : List Bxx} {i k : Int} (h : swE path u v obs = 0) (h1 : SwO path u v obs i k) (hi : i < 0) {a b : Nat} (ha : a + 1 < path.length) (hb : b < obs.length) : hitB (ptZ path a) (ptZ path (a + 1)) u v (bxZ obs b) = false :=
  (h1.2 h).neg.2.1.1 hi a b ha hb
theorem part01 {c : Int} (h0 : 0 ≤ c) (h1 : c ≤ 250) : 0 ≤ ((c : Int) : Rat) / ((250 : Int) : Rat) ∧ ((c : Int) : Rat) / ((250 : Int) : Rat) ≤ 1 := by
  have a : ((0 : Int) : Rat) ≤ (c : Rat) := Rat.intCast_le_intCast.2 h0
  have b : (c : Rat) ≤ ((250 : Int) : Rat) := Rat.intCast_le_intCast.2 h1
  constructor <;> grind
theorem rows_sub {α : Type} {size : Nat} {R : World → List Value → α → Prop} {w : World} {b o n c : Nat} {l : List α} (h : RowsI size R w (.slice (some ⟨b, o, none⟩) n c) l) {a m c' : Nat} (hm : a + m ≤ l.length) (hc : m ≤ c') (hc' : c' ≤ 9223372036854775807) :
    RowsI size R w (.slice (some ⟨b, o + a * size, none⟩) m c') ((l.drop a).take m) := by
  have hl : ((l.drop a).take m).length = m := by rw [List.length_take, List.length_drop]; omega
  refine ⟨some ⟨b, o + a * size, none⟩, c', by rw [hl], by omega, hc', (fun e => by cases e), fun i x hx => ?_⟩
  have hi : i < m := by rw [← hl]; exact (List.getElem?_eq_some_iff.1 hx).1
  rw [List.getElem?_take_of_lt hi, List.getElem?_drop] at hx
  obtain ⟨b', o', c2, cs, e, h1, h2, h3⟩ := h.get hx
  injection e with e1 _ _
  injection e1 with e1
  injection e1 with e2 e3
  subst e2 e3
  exact ⟨b, o + a * size, cs, rfl, h1, by rw [Nat.add_assoc, ← Nat.add_mul]; exact h2, h3⟩
theorem sub_two {l : List Pt} {a : Nat} (h : a + 1 < l.length) : (l.drop a).take 2 = [ptZ l a, ptZ l (a + 1)] := by
  unfold ptZ
  rw [List.getD_eq_getElem?_getD, List.getD_eq_getElem?_getD, List.getElem?_eq_getElem h, List.getElem?_eq_getElem (show a < l.length by omega), List.drop_eq_getElem_cons (show a < l.length by omega), List.drop_eq_getElem_cons h]
  rfl
theorem sub_one {l : List Bxx} {a : Nat} (h : a < l.length) : (l.drop a).take 1 = [bxZ l a] := by
  unfold bxZ
  rw [List.getD_eq_getElem?_getD, List.getElem?_eq_getElem h, List.drop_eq_getElem_cons h]
  rfl
end Go.Proofs.YtbnomdlojmgigaaGreat
namespace Go.Proofs.YtbnomdlojmgigaaGreat
open Go.RowKit Dg
structure Stopped (p : Prop) : Prop where
  out : p
theorem wpList.stop {P : Program} {ops : Array Oper} {Q : Exit → Act → World → Prop} {l : List Oper} {a : Act} {w : World} (h : Stopped (wpList P ops Q l a w)) : wpList P ops Q l a w := h.out
end Go.Proofs.YtbnomdlojmgigaaGreat
