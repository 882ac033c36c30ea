/-
  Sorting by insertion, and order statistics: plain lists. No function of the program is walked here.
-/
import Derived.Test.YtlmemilmhdhgbaaGreatSame0O
set_option linter.unusedSimpArgs false
set_option linter.unusedVariables false
namespace Go.Proofs.YtlmemilmhdhgbaaGreat
open Go.RowKit Dg
def swL (L : List Rat) (j : Nat) : List Rat := (L.set (j + 1) (nthQ L j)).set j (nthQ L (j + 1))
def insP : Nat → List Rat → List Rat
  | 0, L => L
  | j + 1, L => if nthQ L (j + 1) < nthQ L j then insP j (swL L j) else L
def srtP (L : List Rat) : Nat → List Rat
  | 0 => L
  | i + 1 => insP i (srtP L i)
theorem swL_len (L : List Rat) (j : Nat) : (swL L j).length = L.length := by simp [swL]
theorem insP_len : ∀ (j : Nat) (L : List Rat), (insP j L).length = L.length
  | 0, _ => rfl
  | j + 1, L => by
    rw [insP]
    split
    · rw [insP_len j, swL_len]
    · rfl
theorem srtP_len (L : List Rat) : ∀ i, (srtP L i).length = L.length
  | 0 => rfl
  | i + 1 => by rw [srtP, insP_len, srtP_len L i]
theorem insP_yes {j : Nat} {L : List Rat} (h : nthQ L (j + 1) < nthQ L j) : insP (j + 1) L = insP j (swL L j) := by rw [insP, if_pos h]
theorem insP_no {j : Nat} {L : List Rat} (h : ¬ nthQ L (j + 1) < nthQ L j) : insP (j + 1) L = L := by rw [insP, if_neg h]
theorem nthQ_app (A B : List Rat) (x : Rat) : nthQ (A ++ x :: B) A.length = x := by
  unfold nthQ
  rw [List.getD_eq_getElem?_getD, List.getElem?_append_right (Nat.le_refl _), Nat.sub_self]; rfl
theorem swL_app (A B : List Rat) (y x : Rat) : swL (A ++ y :: x :: B) A.length = A ++ x :: y :: B := by
  unfold swL
  have e1 : nthQ (A ++ y :: x :: B) (A.length + 1) = x := by
    have := nthQ_app (A ++ [y]) B x
    rw [List.length_append] at this
    simpa using this
  rw [nthQ_app, e1, List.set_append_right _ _ (by omega), show A.length + 1 - A.length = 1 from by omega, List.set_append_right _ _ (by omega), Nat.sub_self]
  rfl
def insR (x : Rat) : List Rat → List Rat
  | [] => [x]
  | y :: r => if x < y then insR x r ++ [y] else r.reverse ++ [y, x]
theorem insP_insR (x : Rat) : ∀ (r B : List Rat), insP r.length (r.reverse ++ x :: B) = insR x r ++ B
  | [], B => rfl
  | y :: r, B => by
    have e : (y :: r).reverse ++ x :: B = r.reverse ++ y :: x :: B := by simp
    have h1 : nthQ (r.reverse ++ y :: x :: B) (r.length + 1) = x := by
      have := nthQ_app (r.reverse ++ [y]) B x
      rw [List.length_append, List.length_reverse] at this
      simpa using this
    have h2 : nthQ (r.reverse ++ y :: x :: B) r.length = y := by
      have := nthQ_app r.reverse (x :: B) y
      rwa [List.length_reverse] at this
    rw [e]
    show insP (r.length + 1) _ = _
    by_cases c : x < y
    · rw [insP_yes (by rw [h1, h2]; exact c)]
      have := swL_app r.reverse B y x
      rw [List.length_reverse] at this
      rw [this, insP_insR x r (y :: B), insR, if_pos c]
      simp
    · rw [insP_no (by rw [h1, h2]; exact c), insR, if_neg c]
      simp
theorem insR_perm (x : Rat) : ∀ r : List Rat, (insR x r).Perm (x :: r)
  | [] => .refl _
  | y :: r => by
    rw [insR]
    split
    · have h := (insR_perm x r).append_right [y]
      exact h.trans ((List.perm_append_singleton y (x :: r)).trans (.swap _ _ _))
    · have h1 : (r.reverse ++ [y, x]).Perm ([y, x] ++ r.reverse) := List.perm_append_comm
      have h2 : ([y, x] ++ r.reverse).Perm ([y, x] ++ r) := (List.reverse_perm r).append_left _
      exact (h1.trans h2).trans (.swap _ _ _)
theorem insR_sorted (x : Rat) : ∀ r : List Rat, r.Pairwise (fun a b => b ≤ a) → (insR x r).Pairwise (· ≤ ·)
  | [], _ => by simp [insR]
  | y :: r, h => by
    obtain ⟨h1, h2⟩ := List.pairwise_cons.1 h
    rw [insR]
    split
    · rename_i c
      refine List.pairwise_append.2 ⟨insR_sorted x r h2, by simp, fun a ha b hb => ?_⟩
      rw [List.mem_singleton] at hb
      subst hb
      rcases List.mem_cons.1 ((insR_perm x r).mem_iff.1 ha) with rfl | ha
      · exact Rat.le_of_lt c
      · exact h1 a ha
    · rename_i c
      have c' : y ≤ x := Rat.not_lt.1 c
      refine List.pairwise_append.2 ⟨List.pairwise_reverse.2 h2, by simpa using c', fun a ha b hb => ?_⟩
      have ha' := h1 a (List.mem_reverse.1 ha)
      rcases List.mem_cons.1 hb with rfl | hb
      · exact ha'
      · rw [List.mem_singleton] at hb
        subst hb
        exact Rat.le_trans ha' c'
theorem srtP_sorted (L : List Rat) : ∀ i, i ≤ L.length → (srtP L i).Perm L ∧ ∃ A B, srtP L i = A ++ B ∧ A.length = i ∧ A.Pairwise (· ≤ ·)
  | 0, _ => ⟨.refl _, [], L, rfl, rfl, by simp⟩
  | i + 1, h => by
    obtain ⟨hp, A, B, e, hl, hs⟩ := srtP_sorted L i (by omega)
    have hlen : (A ++ B).length = L.length := by rw [← e, srtP_len]
    rw [List.length_append] at hlen
    match B, hlen with
    | x :: B, _ =>
      have h1 := insP_insR x A.reverse B
      rw [List.length_reverse, List.reverse_reverse, hl] at h1
      have hpm := insR_perm x A.reverse
      have hpm2 : (insR x A.reverse ++ B).Perm (A ++ x :: B) := by
        refine (hpm.append_right B).trans ?_
        have : (x :: A.reverse ++ B).Perm (x :: (A ++ B)) := .cons _ ((List.reverse_perm A).append_right B)
        exact this.trans List.perm_middle.symm
      rw [srtP, e, h1]
      refine ⟨hpm2.trans (e ▸ hp), insR x A.reverse, B, rfl, ?_, insR_sorted x _ (List.pairwise_reverse.2 hs)⟩
      have := hpm.length_eq
      simp at this
      omega
    | [], hlen => simp at hlen; omega
def srtQ (L : List Rat) : List Rat := srtP L L.length
theorem srtQ_perm (L : List Rat) : (srtQ L).Perm L := (srtP_sorted L L.length (Nat.le_refl _)).1
theorem srtQ_sorted (L : List Rat) : (srtQ L).Pairwise (· ≤ ·) := by
  obtain ⟨_, A, B, e, hl, hs⟩ := srtP_sorted L L.length (Nat.le_refl _)
  have hlen : (A ++ B).length = L.length := by rw [← e, srtP_len]
  rw [List.length_append] at hlen
  obtain rfl : B = [] := List.length_eq_zero_iff.1 (by omega)
  rw [List.append_nil] at e
  unfold srtQ
  rw [e]
  exact hs
def atM (L : List Rat) (v : Rat) : Nat := L.countP (fun x => decide (x ≤ v))
theorem ord_iff (v : Rat) : ∀ (S : List Rat), S.Pairwise (· ≤ ·) → ∀ r, r < S.length → (nthQ S r ≤ v ↔ r + 1 ≤ atM S v)
  | [], _, r, h => by simp at h
  | a :: t, hs, r, h => by
    obtain ⟨h1, h2⟩ := List.pairwise_cons.1 hs
    by_cases c : a ≤ v
    · have e : atM (a :: t) v = atM t v + 1 := by unfold atM; rw [List.countP_cons_of_pos (by simpa using c)]
      rw [e]
      match r with
      | 0 => exact ⟨fun _ => by omega, fun _ => c⟩
      | r + 1 =>
        have := ord_iff v t h2 r (by simpa using h)
        show nthQ t r ≤ v ↔ _
        rw [this]
        omega
    · have e : atM (a :: t) v = 0 := by
        unfold atM
        rw [List.countP_eq_zero]
        intro x hx
        rcases List.mem_cons.1 hx with rfl | hx
        · simpa using c
        · have := h1 x hx
          simp only [decide_eq_true_eq]
          exact fun hv => c (Rat.le_trans this hv)
      rw [e]
      constructor
      · intro hv
        exfalso
        match r with
        | 0 => exact c hv
        | r + 1 =>
          have hr : r < t.length := by simpa using h
          have := h1 (nthQ t r) (List.mem_of_getElem? (nthQ_some hr))
          exact c (Rat.le_trans this hv)
      · intro hv; omega
def ordQ (L : List Rat) (r : Nat) : Rat := nthQ (srtQ L) r
theorem srtQ_len (L : List Rat) : (srtQ L).length = L.length := srtP_len L _
theorem ordQ_le {L : List Rat} {r : Nat} (h : r < L.length) (v : Rat) : ordQ L r ≤ v ↔ r + 1 ≤ atM L v := by
  have := ord_iff v (srtQ L) (srtQ_sorted L) r (by rw [srtQ_len]; exact h)
  unfold ordQ
  rw [this]
  unfold atM
  rw [(srtQ_perm L).countP_eq]
theorem ordQ_mem {L : List Rat} {r : Nat} (h : r < L.length) : ordQ L r ∈ L := (srtQ_perm L).mem_iff.1 (List.mem_of_getElem? (nthQ_some (by rw [srtQ_len]; exact h)))
theorem eq_of_le {a b : Rat} (h : ∀ v, a ≤ v ↔ b ≤ v) : a = b := Rat.le_antisymm ((h b).2 Rat.le_refl) ((h a).1 Rat.le_refl)
end Go.Proofs.YtlmemilmhdhgbaaGreat
