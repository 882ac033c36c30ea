/-
  Tables as plain lists: the value at a place, between its neighbours, does not fall. And lists of entries in memory.
-/
import Derived.Test.YtkfekkhhfpkfaaaGreatPkGrQ
import Derived.Test.YtkfekkhhfpkfaaaGreatPkLawQ
import Derived.Test.YtkfekkhhfpkfaaaGreatPkLawHQ
set_option linter.unusedSimpArgs false
set_option linter.unusedVariables false
set_option maxRecDepth 100000
set_option maxHeartbeats 16000000
namespace Go.Proofs.YtkfekkhhfpkfaaaGreat
open Go.RowKit Dg
abbrev Stp := Rat × Rat
def stpAt (T : List Stp) (i : Nat) : Stp := T.getD i (0, 0)
def taQ (T : List Stp) (i : Nat) : Rat := (stpAt T i).1
def vaQ (T : List Stp) (i : Nat) : Rat := (stpAt T i).2
def AscT (T : List Stp) (k : Nat) : Prop := ∀ i, i + 1 < k → taQ T i < taQ T (i + 1)
def RisT (T : List Stp) (k : Nat) : Prop := ∀ i, i + 1 < k → vaQ T i ≤ vaQ T (i + 1)
def itpQ (T : List Stp) (x : Rat) (i : Nat) : Rat := vaQ T (i - 1) + (vaQ T i - vaQ T (i - 1)) * (x - taQ T (i - 1)) / (taQ T i - taQ T (i - 1))
def valK (T : List Stp) (x : Rat) : Nat → Nat → Rat × Int
  | 0, _ => (0, 5)
  | n + 1, i => if x = taQ T i then (vaQ T i, 0) else if x < taQ T i then (if i = 0 then (0, 5) else (itpQ T x i, 0)) else valK T x n (i + 1)
def valQ (T : List Stp) (x : Rat) : Rat × Int := valK T x T.length 0
theorem AscT.lt {T : List Stp} {k : Nat} (h : AscT T k) : ∀ j i, i < j → j < k → taQ T i < taQ T j
  | 0, i, hi, _ => absurd hi (Nat.not_lt_zero i)
  | j + 1, i, hi, hj => by
    have h1 := h j hj
    by_cases e : i = j
    · subst e; exact h1
    · have := h.lt j i (by omega) (by omega)
      grind
theorem RisT.le {T : List Stp} {k : Nat} (h : RisT T k) : ∀ j i, i ≤ j → j < k → vaQ T i ≤ vaQ T j
  | 0, i, hi, _ => by
    obtain rfl : i = 0 := by omega
    exact Rat.le_refl
  | j + 1, i, hi, hj => by
    have h1 := h j hj
    by_cases e : i = j + 1
    · subst e; exact Rat.le_refl
    · have := h.le j i (by omega) (by omega)
      grind
section
variable {T : List Stp} {x : Rat}
theorem valK_succ (T : List Stp) (x : Rat) (n i : Nat) : valK T x (n + 1) i = if x = taQ T i then (vaQ T i, 0) else if x < taQ T i then (if i = 0 then (0, 5) else (itpQ T x i, 0)) else valK T x n (i + 1) := rfl
theorem valK_skip {n i : Nat} (h : taQ T i < x) : valK T x (n + 1) i = valK T x n (i + 1) := by
  rw [valK_succ, if_neg (by grind), if_neg (by grind)]
theorem valQ_from : ∀ i, i ≤ T.length → (∀ j, j < i → taQ T j < x) → valQ T x = valK T x (T.length - i) i
  | 0, _, _ => rfl
  | i + 1, hi, h => by
    rw [valQ_from i (by omega) (fun j hj => h j (by omega)), show T.length - i = T.length - (i + 1) + 1 by omega]
    exact valK_skip (h i (by omega))
theorem valQ_eq {i : Nat} (hi : i < T.length) (h : ∀ j, j < i → taQ T j < x) (e : x = taQ T i) : valQ T x = (vaQ T i, 0) := by
  rw [valQ_from i (by omega) h, show T.length - i = T.length - (i + 1) + 1 by omega]
  rw [valK_succ, if_pos e]
theorem valQ_first (hi : 0 < T.length) (e : x < taQ T 0) : valQ T x = (0, 5) := by
  rw [valQ_from 0 (by omega) (fun j hj => absurd hj (Nat.not_lt_zero j)), show T.length - 0 = T.length - (0 + 1) + 1 by omega]
  rw [valK_succ, if_neg (by grind), if_pos e, if_pos rfl]
theorem valQ_itp {i : Nat} (hi : i < T.length) (h : ∀ j, j < i → taQ T j < x) (e : x < taQ T i) (h0 : i ≠ 0) : valQ T x = (itpQ T x i, 0) := by
  rw [valQ_from i (by omega) h, show T.length - i = T.length - (i + 1) + 1 by omega]
  rw [valK_succ, if_neg (by grind), if_pos e, if_neg h0]
theorem valQ_last (h : ∀ j, j < T.length → taQ T j < x) : valQ T x = (0, 5) := by
  rw [valQ_from T.length (Nat.le_refl _) h, Nat.sub_self]; rfl
theorem place (T : List Stp) (x : Rat) : ∀ n, n ≤ T.length → (∀ j, j < n → taQ T j < x) ∨ (∃ i, i < n ∧ (∀ j, j < i → taQ T j < x) ∧ x ≤ taQ T i)
  | 0, _ => .inl fun j hj => absurd hj (Nat.not_lt_zero j)
  | n + 1, hn => by
    rcases place T x n (by omega) with h | ⟨i, hi, h⟩
    · by_cases e : taQ T n < x
      · exact .inl fun j hj => by
          by_cases ej : j = n
          · subst ej; exact e
          · exact h j (by omega)
      · exact .inr ⟨n, by omega, h, by grind⟩
    · exact .inr ⟨i, by omega, h⟩
theorem valQ_err (T : List Stp) (x : Rat) : (valQ T x).2 = 0 ∨ valQ T x = (0, 5) := by
  rcases place T x T.length (Nat.le_refl _) with h | ⟨i, hi, h, h1⟩
  · exact .inr (valQ_last h)
  · by_cases e : x = taQ T i
    · left; rw [valQ_eq hi h e]
    · by_cases h0 : i = 0
      · subst h0; exact .inr (valQ_first hi (by grind))
      · left; rw [valQ_itp hi h (by grind) h0]
theorem valQ_ok (h : (valQ T x).2 = 0) : 0 < T.length ∧ taQ T 0 ≤ x ∧ ∃ i, i < T.length ∧ x ≤ taQ T i := by
  rcases place T x T.length (Nat.le_refl _) with h' | ⟨i, hi, h', h1⟩
  · rw [valQ_last h'] at h; cases h
  · refine ⟨by omega, ?_, i, hi, h1⟩
    by_cases h0 : x < taQ T 0
    · rw [valQ_first (by omega) h0] at h; cases h
    · grind
theorem part_in {p s a b x : Rat} (h1 : a ≤ x) (h2 : x ≤ b) (hab : a < b) : ∃ f : Rat, 0 ≤ f ∧ f ≤ 1 ∧ p + (s - p) * (x - a) / (b - a) = p + (s - p) * f ∧ f = (x - a) / (b - a) := by
  refine ⟨(x - a) / (b - a), ?_, ?_, ?_, rfl⟩
  · have : 0 < b - a := by grind
    exact Rat.not_lt.1 fun hc => by
      rw [Rat.div_lt_iff this] at hc
      grind
  · have : 0 < b - a := by grind
    exact Rat.not_lt.1 fun hc => by
      rw [Rat.lt_div_iff this] at hc
      grind
  · grind
theorem between_lo' {p s f : Rat} (h : p ≤ s) (h0 : 0 ≤ f) (h1 : f ≤ 1) : p ≤ p + (s - p) * f ∧ p + (s - p) * f ≤ s := by
  have h2 := Rat.mul_nonneg (show 0 ≤ s - p by grind) h0
  have h3 := Rat.mul_nonneg (show 0 ≤ s - p by grind) (show 0 ≤ 1 - f by grind)
  constructor <;> grind
theorem between_hi' {p s f : Rat} (h : s ≤ p) (h0 : 0 ≤ f) (h1 : f ≤ 1) : s ≤ p + (s - p) * f ∧ p + (s - p) * f ≤ p := by
  have h2 := Rat.mul_nonneg (show 0 ≤ p - s by grind) h0
  have h3 := Rat.mul_nonneg (show 0 ≤ p - s by grind) (show 0 ≤ 1 - f by grind)
  constructor <;> grind
theorem valQ_between (hT : AscT T T.length) {i : Nat} (h0 : 0 < i) (hi : i < T.length) (h1 : taQ T (i - 1) ≤ x) (h2 : x ≤ taQ T i) :
    (valQ T x).2 = 0 ∧ ((vaQ T (i - 1) ≤ (valQ T x).1 ∧ (valQ T x).1 ≤ vaQ T i) ∨ (vaQ T i ≤ (valQ T x).1 ∧ (valQ T x).1 ≤ vaQ T (i - 1))) := by
  have hl : ∀ j, j < i - 1 → taQ T j < x := fun j hj => by have := hT.lt (i - 1) j hj (by omega); grind
  by_cases e1 : x = taQ T (i - 1)
  · rw [valQ_eq (by omega) hl e1]
    refine ⟨rfl, ?_⟩
    by_cases h : vaQ T (i - 1) ≤ vaQ T i
    · exact .inl ⟨Rat.le_refl, h⟩
    · exact .inr ⟨by grind, Rat.le_refl⟩
  · have hl' : ∀ j, j < i → taQ T j < x := fun j hj => by
      by_cases ej : j = i - 1
      · subst ej; grind
      · exact hl j (by omega)
    by_cases e2 : x = taQ T i
    · rw [valQ_eq hi hl' e2]
      refine ⟨rfl, ?_⟩
      by_cases h : vaQ T (i - 1) ≤ vaQ T i
      · exact .inl ⟨h, Rat.le_refl⟩
      · exact .inr ⟨Rat.le_refl, by grind⟩
    · rw [valQ_itp hi hl' (by grind) (by omega)]
      refine ⟨rfl, ?_⟩
      have hab := hT.lt i (i - 1) (by omega) hi
      obtain ⟨f, f0, f1, e, _⟩ := part_in (p := vaQ T (i - 1)) (s := vaQ T i) h1 h2 hab
      show (vaQ T (i - 1) ≤ itpQ T x i ∧ itpQ T x i ≤ vaQ T i) ∨ _ ≤ itpQ T x i ∧ itpQ T x i ≤ _
      unfold itpQ
      rw [e]
      by_cases h : vaQ T (i - 1) ≤ vaQ T i
      · exact .inl (between_lo' h f0 f1)
      · exact .inr (between_hi' (by grind) f0 f1)
theorem valQ_ge (hT : AscT T T.length) (hR : RisT T T.length) (hx : (valQ T x).2 = 0) {i : Nat} (hi : i < T.length) (h : taQ T i ≤ x) : vaQ T i ≤ (valQ T x).1 := by
  obtain ⟨n0, a0, k, hk, hxk⟩ := valQ_ok hx
  rcases place T x T.length (Nat.le_refl _) with h' | ⟨j, hj, h', h1⟩
  · have := h' k hk; grind
  · by_cases e : x = taQ T j
    · rw [valQ_eq hj h' e]
      refine hR.le j i ?_ hj
      refine Nat.not_lt.1 fun hc => ?_
      have := hT.lt i j hc hi; grind
    · by_cases h0 : j = 0
      · subst h0; grind
      · have h3 := h' (j - 1) (by omega)
        have hb := (valQ_between hT (i := j) (by omega) hj (by grind) h1).2
        have h4 := hR.le j (j - 1) (by omega) hj
        have h5 : vaQ T (j - 1) ≤ (valQ T x).1 := by grind
        have h6 := hR.le (j - 1) i (by
          refine Nat.not_lt.1 fun hc => ?_
          have h7 : j ≤ i := by omega
          by_cases e7 : j = i
          · subst e7; grind
          · have := hT.lt i j (by omega) hi; grind) (by omega)
        grind
theorem valQ_le (hT : AscT T T.length) (hR : RisT T T.length) (hx : (valQ T x).2 = 0) {i : Nat} (hi : i < T.length) (h : x ≤ taQ T i) : (valQ T x).1 ≤ vaQ T i := by
  obtain ⟨n0, a0, k, hk, hxk⟩ := valQ_ok hx
  rcases place T x T.length (Nat.le_refl _) with h' | ⟨j, hj, h', h1⟩
  · have := h' k hk; grind
  · have hji : j ≤ i := by
      refine Nat.not_lt.1 fun hc => ?_
      have := h' i hc; grind
    by_cases e : x = taQ T j
    · rw [valQ_eq hj h' e]
      exact hR.le i j hji hi
    · by_cases h0 : j = 0
      · subst h0; grind
      · have h3 := h' (j - 1) (by omega)
        have hb := (valQ_between hT (i := j) (by omega) hj (by grind) h1).2
        have h4 := hR.le j (j - 1) (by omega) hj
        have h6 := hR.le i j hji hi
        grind
theorem valQ_mono (hT : AscT T T.length) (hR : RisT T T.length) {y : Rat} (hx : (valQ T x).2 = 0) (hy : (valQ T y).2 = 0) (h : x ≤ y) : (valQ T x).1 ≤ (valQ T y).1 := by
  obtain ⟨n0, a0, k, hk, hxk⟩ := valQ_ok hx
  rcases place T x T.length (Nat.le_refl _) with h' | ⟨i, hi, h', h1⟩
  · have := h' k hk; grind
  · by_cases h2 : taQ T i ≤ y
    · have := valQ_le hT hR hx hi h1
      have := valQ_ge hT hR hy hi h2
      grind
    · by_cases h0 : i = 0
      · subst h0; grind
      · have h3 := h' (i - 1) (by omega)
        have hl : ∀ j, j < i → taQ T j < y := fun j hj => by have := h' j hj; grind
        rw [valQ_itp hi h' (by grind) h0, valQ_itp hi hl (by grind) h0]
        show itpQ T x i ≤ itpQ T y i
        unfold itpQ
        have hab := hT.lt i (i - 1) (by omega) hi
        obtain ⟨f, f0, f1, e, ef⟩ := part_in (p := vaQ T (i - 1)) (s := vaQ T i) (x := x) (by grind) h1 hab
        obtain ⟨g, g0, g1, e', eg⟩ := part_in (p := vaQ T (i - 1)) (s := vaQ T i) (x := y) (by grind) (by grind) hab
        rw [e, e']
        have h4 := hR.le i (i - 1) (by omega) hi
        have hfg : 0 ≤ g - f := by
          have : g - f = (y - x) / (taQ T i - taQ T (i - 1)) := by rw [ef, eg]; grind
          rw [this]
          have h5 : 0 < taQ T i - taQ T (i - 1) := by grind
          exact Rat.not_lt.1 fun hc => by
            rw [Rat.div_lt_iff h5] at hc
            grind
        have := Rat.mul_nonneg (show 0 ≤ vaQ T i - vaQ T (i - 1) by grind) hfg
        grind
end
def ascB (T : List Stp) : Nat → Bool
  | 0 => true
  | k + 1 => ascB T k && (decide (k = 0) || decide (taQ T (k - 1) < taQ T k))
def risB (T : List Stp) : Nat → Bool
  | 0 => true
  | k + 1 => risB T k && (decide (k = 0) || decide (vaQ T (k - 1) ≤ vaQ T k))
theorem ascB_false {T : List Stp} {k : Nat} (h : ascB T k = false) : ∀ d, ascB T (k + d) = false
  | 0 => h
  | d + 1 => by show (ascB T (k + d) && _) = false; rw [ascB_false h d]; rfl
theorem risB_false {T : List Stp} {k : Nat} (h : risB T k = false) : ∀ d, risB T (k + d) = false
  | 0 => h
  | d + 1 => by show (risB T (k + d) && _) = false; rw [risB_false h d]; rfl
theorem ascB_one (T : List Stp) : ascB T 1 = true := by unfold ascB ascB; simp
theorem risB_one (T : List Stp) : risB T 1 = true := by unfold risB risB; simp
theorem ascB_step {T : List Stp} {k : Nat} (h : ascB T k = true) (h1 : ¬ taQ T k ≤ taQ T (k - 1)) : ascB T (k + 1) = true := by
  show (ascB T k && _) = true
  rw [h, decide_eq_true (p := taQ T (k - 1) < taQ T k) (Rat.not_le.1 h1)]; simp
theorem risB_step {T : List Stp} {k : Nat} (h : risB T k = true) (h1 : ¬ vaQ T k < vaQ T (k - 1)) : risB T (k + 1) = true := by
  show (risB T k && _) = true
  rw [h, decide_eq_true (p := vaQ T (k - 1) ≤ vaQ T k) (Rat.not_lt.1 h1)]; simp
theorem ascB_bad {T : List Stp} {k : Nat} (hk : 1 ≤ k) (hl : k < T.length) (h1 : taQ T k ≤ taQ T (k - 1)) : ascB T T.length = false := by
  have h : ascB T (k + 1) = false := by
    show (ascB T k && _) = false
    rw [decide_eq_false (show ¬ taQ T (k - 1) < taQ T k from Rat.not_lt.2 h1), decide_eq_false (show ¬ k = 0 by omega)]; simp
  have := ascB_false h (T.length - (k + 1))
  rwa [show k + 1 + (T.length - (k + 1)) = T.length by omega] at this
theorem risB_bad {T : List Stp} {k : Nat} (hk : 1 ≤ k) (hl : k < T.length) (h1 : vaQ T k < vaQ T (k - 1)) : risB T T.length = false := by
  have h : risB T (k + 1) = false := by
    show (risB T k && _) = false
    rw [decide_eq_false (show ¬ vaQ T (k - 1) ≤ vaQ T k from Rat.not_le.2 h1), decide_eq_false (show ¬ k = 0 by omega)]; simp
  have := risB_false h (T.length - (k + 1))
  rwa [show k + 1 + (T.length - (k + 1)) = T.length by omega] at this
theorem ascB_asc {T : List Stp} : ∀ k, ascB T k = true → AscT T k
  | 0, _, i, hi => absurd hi (by omega)
  | k + 1, h, i, hi => by
    have h' : (ascB T k && (decide (k = 0) || decide (taQ T (k - 1) < taQ T k))) = true := h
    simp only [Bool.and_eq_true, Bool.or_eq_true, decide_eq_true_eq] at h'
    by_cases e : i + 1 = k
    · subst e
      rcases h'.2 with h2 | h2
      · omega
      · exact h2
    · exact ascB_asc k h'.1 i (by omega)
theorem risB_ris {T : List Stp} : ∀ k, risB T k = true → RisT T k
  | 0, _, i, hi => absurd hi (by omega)
  | k + 1, h, i, hi => by
    have h' : (risB T k && (decide (k = 0) || decide (vaQ T (k - 1) ≤ vaQ T k))) = true := h
    simp only [Bool.and_eq_true, Bool.or_eq_true, decide_eq_true_eq] at h'
    by_cases e : i + 1 = k
    · subst e
      rcases h'.2 with h2 | h2
      · omega
      · exact h2
    · exact risB_ris k h'.1 i (by omega)
def tabE (T : List Stp) : Int := if T.length < 1 then 4 else if 12 < T.length then 4 else if ascB T T.length = true then 0 else 7
theorem tabE_ok {T : List Stp} (h : tabE T = 0) : 1 ≤ T.length ∧ T.length ≤ 12 ∧ ascB T T.length = true := by
  unfold tabE at h
  by_cases h1 : T.length < 1
  · rw [if_pos h1] at h; cases h
  · rw [if_neg h1] at h
    by_cases h2 : 12 < T.length
    · rw [if_pos h2] at h; cases h
    · rw [if_neg h2] at h
      by_cases h3 : ascB T T.length = true
      · exact ⟨by omega, by omega, h3⟩
      · rw [if_neg h3] at h; cases h
abbrev TabSz (T : List Stp) : Prop := ∀ i, i < T.length → SzQ 1 (taQ T i) ∧ SzQ 1 (vaQ T i)
theorem stp_some {T : List Stp} {i : Nat} (h : i < T.length) : T[i]? = some (taQ T i, vaQ T i) := by
  unfold taQ vaQ stpAt
  rw [List.getD_eq_getElem?_getD, List.getElem?_eq_getElem h]; rfl
theorem rowSP_at {w : World} {U : TypeId} {b o n c : Nat} {T : List Stp} {i : Nat} (h : Rows 6 U (C2 PC) w (.slice (some ⟨b, o, none⟩) n c) T) (hi : i < T.length) :
    ∃ g1 a1 n1 c1 A1 N1 D1 g2 a2 n2 c2 A2 N2 D2, w.cell? ⟨b, o + i * 6, none⟩ = some (.bool g1) ∧ w.cell? ⟨b, o + i * 6 + 1, none⟩ = some (.slice a1 n1 c1) ∧ w.cell? ⟨b, o + i * 6 + 2, none⟩ = some (.slice A1 N1 D1)
      ∧ w.cell? ⟨b, o + i * 6 + 3, none⟩ = some (.bool g2) ∧ w.cell? ⟨b, o + i * 6 + 4, none⟩ = some (.slice a2 n2 c2) ∧ w.cell? ⟨b, o + i * 6 + 5, none⟩ = some (.slice A2 N2 D2)
      ∧ PV w (.agg #[.bool g1, .slice a1 n1 c1, .slice A1 N1 D1]) (taQ T i) ∧ PV w (.agg #[.bool g2, .slice a2 n2 c2, .slice A2 N2 D2]) (vaQ T i) ∧ b < w.heap.size := by
  obtain ⟨b', o', c', cs, hv, _, hat, hc⟩ := h.get (stp_some hi)
  obtain ⟨e, rfl⟩ := sliceE hv
  injection e with e
  injection e with e1 e2
  subst e1 e2
  obtain ⟨g1, a1, n1, c1, A1, N1, D1, g2, a2, n2, c2, A2, N2, D2, rfl, p1, p2⟩ := hc.openP
  exact ⟨_, _, _, _, _, _, _, _, _, _, _, _, _, _, hat 0 _ rfl, hat 1 _ rfl, hat 2 _ rfl, hat 3 _ rfl, hat 4 _ rfl, hat 5 _ rfl, p1, p2, cell_lt (hat 0 _ rfl)⟩
theorem valK_sz {T : List Stp} {x : Rat} (hz : TabSz T) (hx : SzQ 100 x) : ∀ n i, i + n ≤ T.length → SzQ 400 (valK T x n i).1
  | 0, _, _ => (szQ_zero).mono (by omega)
  | n + 1, i, h => by
    have h1 := hz i (by omega)
    rw [valK_succ]
    by_cases e1 : x = taQ T i
    · rw [if_pos e1]; exact h1.2.mono (by omega)
    · rw [if_neg e1]
      by_cases e2 : x < taQ T i
      · rw [if_pos e2]
        by_cases e3 : i = 0
        · rw [if_pos e3]; exact szQ_zero.mono (by omega)
        · rw [if_neg e3]
          have h0 := hz (i - 1) (by omega)
          by_cases e4 : taQ T i - taQ T (i - 1) = 0
          · show SzQ 400 (itpQ T x i)
            unfold itpQ
            rw [e4, Rat.div_def, Rat.inv_zero, Rat.mul_zero]
            exact (SzQ.add h0.2 szQ_zero).mono (by omega)
          · exact (SzQ.add h0.2 (SzQ.div (SzQ.mul (SzQ.sub h1.2 h0.2) (SzQ.sub hx h0.1)) (SzQ.sub h1.1 h0.1) e4)).mono (by omega)
      · rw [if_neg e2]; exact valK_sz hz hx n (i + 1) (by omega)
theorem valQ_sz {T : List Stp} {x : Rat} (hz : TabSz T) (hx : SzQ 100 x) : SzQ 400 (valQ T x).1 := valK_sz hz hx T.length 0 (by omega)
end Go.Proofs.YtkfekkhhfpkfaaaGreat
namespace Go.Proofs.YtkfekkhhfpkfaaaGreat
open Go.RowKit Dg
attribute [local go_sem ↓] Go.wp_at_zero Go.wp_at_succ
theorem rowsF1 {w : World} {g : Nat} {T : TypeId} {n1 d1 : Int} (h : Bx w g T #[.int .i64 n1, .int .i64 d1]) : RowsI 2 FC w (.slice (some ⟨g, 0, none⟩) 1 1) [(n1, d1)] := by
  refine ⟨_, 1, rfl, Nat.le_refl _, by decide, (fun e => by cases e), fun i x hx => ?_⟩
  match i, hx with
  | 0, hx => cases hx; exact ⟨g, 0, [_, _], rfl, rfl, (fun j u hu => by match j, hu with | 0, hu => cases hu; exact h.at 0 rfl | 1, hu => cases hu; exact h.at 1 rfl), rfl⟩
theorem sp_le (n1 d1 n2 d2 : Int) : spLo n1 d1 n2 d2 ≤ spHi n1 d1 n2 d2 := by unfold spLo spHi mnQ mxQ; grind
end Go.Proofs.YtkfekkhhfpkfaaaGreat
namespace Go.Proofs.YtkfekkhhfpkfaaaGreat
open Go.RowKit Dg
attribute [local go_sem ↓] Go.wp_at_zero Go.wp_at_succ
abbrev DP := (Int × Int) × (Int × Int)
def QC (_ : World) (cs : List Value) (x : DP) : Prop := cs = [.int .i64 x.1.1, .int .i64 x.1.2, .int .i64 x.2.1, .int .i64 x.2.2]
theorem QC.kept : Kept QC := fun _ _ _ _ h _ => h
def stpF (x : DP) : Stp := (fracQ x.1.1 x.1.2, fracQ x.2.1 x.2.2)
def shortP (x : DP) : Bool := [x.1, x.2].all shortF
def briefQ (l : List DP) : Bool := l.all shortP && decide ((l.length : Int) ≤ 20)
theorem stepP_info : (Tryz.prog.info? 153).map (fun i => (i.zero, i.size, i.bytes)) = some (some (.agg #[.bool false, .slice none 0 0, .slice none 0 0, .bool false, .slice none 0 0, .slice none 0 0]), 6, 112) := by kernel_rfl
theorem stepR_info : (Tryz.prog.info? 155).map (fun i => (i.zero, i.size, i.bytes)) = some (some (.agg #[.bool false, .slice none 0 0, .slice none 0 0, .bool false, .slice none 0 0, .slice none 0 0]), 6, 112) := by kernel_rfl
theorem stpF_sz {l : List DP} (h : l.all shortP = true) (ok : ∀ x ∈ l, DOk x.1 ∧ DOk x.2) : TabSz (l.map stpF) := fun i hi => by
 obtain ⟨x, hx, e⟩ := List.mem_map.1 (List.mem_of_getElem? (stp_some hi))
 have h1 := short2 (List.all_eq_true.1 h _ hx)
 have o := ok _ hx
 have e1 : taQ (l.map stpF) i = fracQ x.1.1 x.1.2 := congrArg Prod.fst e.symm
 have e2 : vaQ (l.map stpF) i = fracQ x.2.1 x.2.2 := congrArg Prod.snd e.symm
 rw [e1, e2]
 exact ⟨short_sz h1.1 o.1, short_sz h1.2 o.2⟩
theorem l7_table (v : Value) (l : List DP) (w : World) (hl : RowsI 4 QC w v l) (h20 : l.length ≤ 20) (hok : ∀ x ∈ l, DOk x.1 ∧ DOk x.2) :
  Calls Tryz.prog 24 #[v] w (Ret2 (fun w v => Rows 6 153 (C2 PC) w v (l.map stpF)) (fun w v => Rows 6 155 (C2 RC) w v (l.map stpF)) w) := by
 obtain ⟨ao, cap, rfl, hc1, hc2, hc3⟩ := hl.slice
 have hs := Below.refl w.heap.size w
 have HL := Lib.hid hl
 have HOK := Lib.hid hok
 obtain ⟨i0, hi, hz0, hz1, hz2⟩ := info_parts stepP_info
 obtain ⟨j0, hj, hy0, hy1, hy2⟩ := info_parts stepR_info
 clear hl hok
 go_enter Tryz.func24, Tryz.ntmps24
 go_wp2
 go_loopw [4, 5, 10] (fun av bv iv wq => ∃ k : Nat, k ≤ l.length ∧ iv = .int .i64 k ∧ Below w.heap.size w wq ∧ OwnR w.heap.size 153 6 (C2 PC) wq av ((l.take k).map stpF) ∧ OwnR w.heap.size 155 6 (C2 RC) wq bv ((l.take k).map stpF)) (fun _ _ iv _ => l.length - (intOf iv).toNat)
 case atStart => exact ⟨0, Nat.zero_le _, rfl, hs, OwnR.nil _ _ _ _ _, OwnR.nil _ _ _ _ _⟩
 case round =>
  obtain ⟨k, hk, rfl, hs, B5, B6⟩ := hrel
  by_cases Bh : k < l.length
  ·obtain ⟨⟨⟨n1, d1⟩, ⟨n2, d2⟩⟩, hx⟩ : ∃ x, l[k]? = some x := ⟨_, List.getElem?_eq_getElem Bh⟩
   obtain ⟨b, o, c, cs, hv, Bm, Ba, rfl⟩ := (HL.out.mono QC.kept hs).get hx
   obtain ⟨rfl, rfl⟩ := sliceE hv
   obtain ⟨⟨a1, a2, a3, a4⟩, ⟨b1, b2, b3, b4⟩⟩ := HOK.out _ (List.mem_of_getElem? hx)
   have e0 := Ba 0 _ rfl
   have e1 := Ba 1 _ rfl
   have e2 := Ba 2 _ rfl
   have e3 := Ba 3 _ rfl
   clear Ba
   simp only [Nat.add_zero] at e0
   have HM := Lib.hid (map_take stpF l k _ hx)
   have hlm : ((l.take k).map stpF).length = k := by rw [List.length_map, List.length_take]; omega
   clear hx hv Bm
   dsimp only at e0 e1 e2 e3 a1 a2 a3 a4 b1 b2 b3 b4
   go_upto_region 6 with fail
   clear e0 e1 e2 e3
   refine Code.abs ?_
   intro Bd hW
   have hsz := hs.size
   have Bg : Below w.heap.size wr Bd := by rw [hW]; exact (Below.alloc (Below.refl w.heap.size wr) (by first | exact hs.size | (have := hs.size; simp; done) | (have := hs.size; simp; omega)) _)
   have Bl : Below w.heap.size w Bd := hs.trans Bg
   have hk : KeepD wr Bd := by rw [hW]; exact ((KeepD.refl _).alloc _)
   have hb1 : Below wr.heap.size wr Bd := by rw [hW]; exact (Below.alloc (Below.refl _ _) (by first | exact Nat.le_refl _ | (simp; done) | (simp; omega)) _)
   have Be : Bx Bd (wr.heap.size) 68 #[.int .i64 n1, .int .i64 d1, .int .i64 n2, .int .i64 d2] := by rw [hW]; exact (Bx.new' _ _ _ _ (by first | rfl | (simp; done)))
   replace hs := Bl
   clear Bl
   have B0 := Be
   clear Be
   replace B5 := B5.mono (C2.kept PC.kept) hb1
   replace B6 := B6.mono (C2.kept RC.kept) hb1
   clear hb1
   clear hW hk hsz Bg
   have hz_w21 := B0.lt
   refine U_region (S := fun w' => w'.cell? ⟨wr.heap.size, 0, none⟩ = some (.int .i64 n1) ∧ w'.cell? ⟨wr.heap.size, 1, none⟩ = some (.int .i64 d1) ∧ w'.cell? ⟨wr.heap.size, 2, none⟩ = some (.int .i64 n2) ∧ w'.cell? ⟨wr.heap.size, 3, none⟩ = some (.int .i64 d2)) (by kernel_rfl) 21 ?_
   refine AnyU.abs ?_
   intro Bc hW
   have hb : Below Bd.heap.size Bd Bc := by rw [hW]; exact bDrew _
   replace hs := bStep hs hb
   replace B0 := B0.mono hb
   replace B5 := B5.mono (C2.kept PC.kept) hb
   replace B6 := B6.mono (C2.kept RC.kept) hb
   clear hb hW
   have B1 := B0.a0
   have B2 := B0.a1
   have B3 := B0.a2
   have B4 := B0.a3
   have hH := (show Bc.cell? ⟨wr.heap.size, 0, none⟩ = some (.int .i64 n1) ∧ Bc.cell? ⟨wr.heap.size, 1, none⟩ = some (.int .i64 d1) ∧ Bc.cell? ⟨wr.heap.size, 2, none⟩ = some (.int .i64 n2) ∧ Bc.cell? ⟨wr.heap.size, 3, none⟩ = some (.int .i64 d2) from ⟨B1, B2, B3, B4⟩)
   refine U_take (i := 0) (v := ?_) rfl (by kernel_rfl) (by kernel_rfl) (by kernel_rfl) (by kernel_rfl) (fun _ _ _ h => h) (Or.inl ⟨by rfl, ?_⟩) hH ?_
   rotate_left
   ·intro w B7
    try dsimp only at B7
    go_simp
    try with_reducible rfl
   try simp only [Act.put, List.setIfInBounds_toArray, List.set_cons_zero, List.set_cons_succ]
   refine U_take (i := 1) (v := ?_) rfl (by kernel_rfl) (by kernel_rfl) (by kernel_rfl) (by kernel_rfl) (fun _ _ _ h => h) (Or.inl ⟨by rfl, ?_⟩) hH ?_
   rotate_left
   ·intro w B7
    try dsimp only at B7
    go_simp
    try with_reducible rfl
   try simp only [Act.put, List.setIfInBounds_toArray, List.set_cons_zero, List.set_cons_succ]
   refine U_take (i := 2) (v := ?_) rfl (by kernel_rfl) (by kernel_rfl) (by kernel_rfl) (by kernel_rfl) (fun _ _ _ h => h) (Or.inl ⟨by rfl, ?_⟩) hH ?_
   rotate_left
   ·intro w B7
    try dsimp only at B7
    go_simp
    try with_reducible rfl
   try simp only [Act.put, List.setIfInBounds_toArray, List.set_cons_zero, List.set_cons_succ]
   refine U_take (i := 4) (v := ?_) rfl (by kernel_rfl) (by kernel_rfl) (by kernel_rfl) (by kernel_rfl) (fun _ _ _ h => h) (Or.inl ⟨by rfl, ?_⟩) hH ?_
   rotate_left
   ·intro w B7
    try dsimp only at B7
    go_simp
    try with_reducible rfl
   try simp only [Act.put, List.setIfInBounds_toArray, List.set_cons_zero, List.set_cons_succ]
   refine U_take (i := 5) (v := ?_) rfl (by kernel_rfl) (by kernel_rfl) (by kernel_rfl) (by kernel_rfl) (fun _ _ _ h => h) (Or.inl ⟨by rfl, ?_⟩) hH ?_
   rotate_left
   ·intro w B7
    try dsimp only at B7
    go_simp
    try with_reducible rfl
   try simp only [Act.put, List.setIfInBounds_toArray, List.set_cons_zero, List.set_cons_succ]
   refine U_take (i := 10) (v := ?_) rfl (by kernel_rfl) (by kernel_rfl) (by kernel_rfl) (by kernel_rfl) (fun _ _ _ h => h) (Or.inl ⟨by rfl, ?_⟩) hH ?_
   rotate_left
   ·intro w B7
    try dsimp only at B7
    go_simp
    try with_reducible rfl
   try simp only [Act.put, List.setIfInBounds_toArray, List.set_cons_zero, List.set_cons_succ]
   refine U_take (i := 11) (v := ?_) rfl (by kernel_rfl) (by kernel_rfl) (by kernel_rfl) (by kernel_rfl) (fun _ _ _ h => h) (Or.inl ⟨by rfl, ?_⟩) hH ?_
   rotate_left
   ·intro w B7
    try dsimp only at B7
    go_simp
    try with_reducible rfl
   try simp only [Act.put, List.setIfInBounds_toArray, List.set_cons_zero, List.set_cons_succ]
   refine U_take (i := 12) (v := ?_) rfl (by kernel_rfl) (by kernel_rfl) (by kernel_rfl) (by kernel_rfl) (fun _ _ _ h => h) (Or.inl ⟨by rfl, ?_⟩) hH ?_
   rotate_left
   ·intro w B7
    try dsimp only at B7
    go_simp
    try with_reducible rfl
   try simp only [Act.put, List.setIfInBounds_toArray, List.set_cons_zero, List.set_cons_succ]
   refine U_take (i := 14) (v := ?_) rfl (by kernel_rfl) (by kernel_rfl) (by kernel_rfl) (by kernel_rfl) (fun _ _ _ h => h) (Or.inl ⟨by rfl, ?_⟩) hH ?_
   rotate_left
   ·intro w B7
    try dsimp only at B7
    go_simp
    try with_reducible rfl
   try simp only [Act.put, List.setIfInBounds_toArray, List.set_cons_zero, List.set_cons_succ]
   refine U_take (i := 15) (v := ?_) rfl (by kernel_rfl) (by kernel_rfl) (by kernel_rfl) (by kernel_rfl) (fun _ _ _ h => h) (Or.inl ⟨by rfl, ?_⟩) hH ?_
   rotate_left
   ·intro w B7
    try dsimp only at B7
    go_simp
    try with_reducible rfl
   try simp only [Act.put, List.setIfInBounds_toArray, List.set_cons_zero, List.set_cons_succ]
   clear hH
   refine U_one (i := 3) (by kernel_rfl) rfl (fun K hK => ?_)
   go_simp
   (with_reducible refine (l7_of n1 d1 _ a1 a2 a3 a4).mono ?_)
   rintro e w23 ⟨_, rfl, hp, hb⟩
   obtain ⟨shp, ahp, nhp, chp, Ahp, Nhp, Chp, rfl⟩ := hp.shape
   replace hs := bStep hs hb
   replace B0 := B0.mono hb
   replace B5 := B5.mono (C2.kept PC.kept) hb
   replace B6 := B6.mono (C2.kept RC.kept) hb
   replace B1 := cellK B1 hb
   replace B2 := cellK B2 hb
   replace B3 := cellK B3 hb
   replace B4 := cellK B4 hb
   clear hb
   try go_wp2_with fail
   refine hK.out _ _ ⟨B1, B2, B3, B4⟩ (fun hH => ?_)
   clear hK K
   try simp only [Act.put, List.setIfInBounds_toArray, List.set_cons_zero, List.set_cons_succ]
   clear hH
   refine U_one (i := 6) (by kernel_rfl) rfl (fun K hK => ?_)
   go_simp
   (with_reducible refine (l7_of n2 d2 _ b1 b2 b3 b4).mono ?_)
   rintro e w24 ⟨_, rfl, hq, hb⟩
   obtain ⟨shq, ahq, nhq, chq, Ahq, Nhq, Chq, rfl⟩ := hq.shape
   replace hs := bStep hs hb
   replace B0 := B0.mono hb
   replace hp := hp.mono hb
   replace B5 := B5.mono (C2.kept PC.kept) hb
   replace B6 := B6.mono (C2.kept RC.kept) hb
   replace B1 := cellK B1 hb
   replace B2 := cellK B2 hb
   replace B3 := cellK B3 hb
   replace B4 := cellK B4 hb
   clear hb
   try go_wp2_with fail
   refine hK.out _ _ ⟨B1, B2, B3, B4⟩ (fun hH => ?_)
   clear hK K
   try simp only [Act.put, List.setIfInBounds_toArray, List.set_cons_zero, List.set_cons_succ]
   refine U_take (i := 7) (v := ?_) rfl (by kernel_rfl) (by kernel_rfl) (by kernel_rfl) (by kernel_rfl) (fun _ _ _ h => h) (Or.inl ⟨by rfl, ?_⟩) hH ?_
   rotate_left
   ·intro w B7
    try dsimp only at B7
    go_simp
    try with_reducible rfl
   try simp only [Act.put, List.setIfInBounds_toArray, List.set_cons_zero, List.set_cons_succ]
   clear hH
   refine U_one (i := 8) (by kernel_rfl) rfl (fun K hK => ?_)
   go_simp
   generalize hWn : (w24.alloc (.cells #[.bool shp, .slice ahp nhp chp, .slice Ahp Nhp Chp, .bool shq, .slice ahq nhq chq, .slice Ahq Nhq Chq] 153)) = w25
   have hb : Below w24.heap.size w24 w25 := by rw [← hWn]; exact (Below.refl _ _).alloc (Nat.le_refl _) _
   have Ble : Bx w25 (w24.heap.size) 153 #[.bool shp, .slice ahp nhp chp, .slice Ahp Nhp Chp, .bool shq, .slice ahq nhq chq, .slice Ahq Nhq Chq] := by rw [← hWn]; exact Bx.new _ _ _
   have nx_e : wr.heap.size ≠ w24.heap.size := by have := B0.lt; omega
   have sz_e : w.heap.size ≤ w24.heap.size := hs.size
   replace hs := bStep hs hb
   replace B0 := B0.mono hb
   replace hp := hp.mono hb
   replace hq := hq.mono hb
   replace B5 := B5.mono (C2.kept PC.kept) hb
   replace B6 := B6.mono (C2.kept RC.kept) hb
   replace B1 := cellK B1 hb
   replace B2 := cellK B2 hb
   replace B3 := cellK B3 hb
   replace B4 := cellK B4 hb
   clear hb hWn
   refine hK.out _ _ ⟨B1, B2, B3, B4⟩ (fun hH => ?_)
   clear hK K
   try simp only [Act.put, List.setIfInBounds_toArray, List.set_cons_zero, List.set_cons_succ]
   clear hH
   refine U_one (i := 9) (by kernel_rfl) rfl (fun K hK => ?_)
   obtain ⟨css, Bi, Bj, Bk, B8⟩ := B5
   simp only [List.getElem_toArray, List.getElem_cons_succ, List.getElem_cons_zero]
   rw [if_pos (by rfl)]
   refine wp_append_lies _ _ _ _ (by rfl) w.heap.size 153 i0 _ 6 112 Tryz.underlying71 hi hz0 hz1 hz2 (by rfl) (by omega) _ _ css.flatten (by rfl) B8 ⟨w24.heap.size, 0, none⟩ 1 1 [.bool shp, .slice ahp nhp chp, .slice Ahp Nhp Chp, .bool shq, .slice ahq nhq chq, .slice Ahq Nhq Chq] (by rfl) (by rfl) Ble.news ?_ (by omega) ?_ ?_ ?_ _ rfl ?_
   ·intro u hu; simp only [List.mem_cons, List.mem_nil_iff, or_false] at hu; rcases hu with rfl | rfl | rfl | rfl | rfl | rfl <;> rfl
   ·unfold maxLen; omega
   ·omega
   ·exact hs.size
   intro gpa cappa w26 Bb B9 Ba Bh
   have hk := KeepD.owns B8 B9 (by decide)
   have ho := owns_onlyT B8 B9
   replace hs := hs.grown B9 hs.size (fun k hk => (B8.lt k hk).1)
   replace B5 := OwnR.push (C2.kept PC.kept) Bi Bj Bk (x := (stpF ((n1, d1), (n2, d2)))) rfl ⟨[_, _, _], [_, _, _], rfl, ⟨_, _, _, rfl, hp⟩, ⟨_, _, _, rfl, hq⟩⟩ Bb hk
   replace B0 := B0.only ho (by decide)
   replace hp := hp.keep hk
   replace hq := hq.keep hk
   replace B6 := B6.onlyT (C2.kept RC.kept) ho (by decide) (by decide)
   replace B1 := B0.at 0 rfl
   replace B2 := B0.at 1 rfl
   replace B3 := B0.at 2 rfl
   replace B4 := B0.at 3 rfl
   clear hk ho Bi Bj Bk B8 Bb B9 Ble
   refine hK.out _ _ ⟨B1, B2, B3, B4⟩ (fun hH => ?_)
   clear hK K
   try simp only [Act.put, List.setIfInBounds_toArray, List.set_cons_zero, List.set_cons_succ]
   clear hH
   refine U_one (i := 13) (by kernel_rfl) rfl (fun K hK => ?_)
   go_simp
   (with_reducible refine (r_Of_calls n1 d1 _ a1 a2 a3 a4).mono ?_)
   rintro e w27 ⟨_, rfl, hr, hb⟩
   obtain ⟨shr, ahr, nhr, chr, Ahr, Nhr, Chr, rfl⟩ := hr.shape
   replace hs := bStep hs hb
   replace B0 := B0.mono hb
   replace hp := hp.mono hb
   replace hq := hq.mono hb
   replace B5 := B5.mono (C2.kept PC.kept) hb
   replace B6 := B6.mono (C2.kept RC.kept) hb
   replace B1 := cellK B1 hb
   replace B2 := cellK B2 hb
   replace B3 := cellK B3 hb
   replace B4 := cellK B4 hb
   clear hb
   try go_wp2_with fail
   refine hK.out _ _ ⟨B1, B2, B3, B4⟩ (fun hH => ?_)
   clear hK K
   try simp only [Act.put, List.setIfInBounds_toArray, List.set_cons_zero, List.set_cons_succ]
   clear hH
   refine U_one (i := 16) (by kernel_rfl) rfl (fun K hK => ?_)
   go_simp
   (with_reducible refine (r_Of_calls n2 d2 _ b1 b2 b3 b4).mono ?_)
   rintro e Bf ⟨_, rfl, hu, hb⟩
   obtain ⟨shu, ahu, nhu, chu, Ahu, Nhu, Chu, rfl⟩ := hu.shape
   replace hs := bStep hs hb
   replace B0 := B0.mono hb
   replace hp := hp.mono hb
   replace hq := hq.mono hb
   replace hr := hr.mono hb
   replace B5 := B5.mono (C2.kept PC.kept) hb
   replace B6 := B6.mono (C2.kept RC.kept) hb
   replace B1 := cellK B1 hb
   replace B2 := cellK B2 hb
   replace B3 := cellK B3 hb
   replace B4 := cellK B4 hb
   clear hb
   try go_wp2_with fail
   refine hK.out _ _ ⟨B1, B2, B3, B4⟩ (fun hH => ?_)
   clear hK K
   try simp only [Act.put, List.setIfInBounds_toArray, List.set_cons_zero, List.set_cons_succ]
   refine U_take (i := 17) (v := ?_) rfl (by kernel_rfl) (by kernel_rfl) (by kernel_rfl) (by kernel_rfl) (fun _ _ _ h => h) (Or.inl ⟨by rfl, ?_⟩) hH ?_
   rotate_left
   ·intro w B7
    try dsimp only at B7
    go_simp
    try with_reducible rfl
   try simp only [Act.put, List.setIfInBounds_toArray, List.set_cons_zero, List.set_cons_succ]
   clear hH
   refine U_one (i := 18) (by kernel_rfl) rfl (fun K hK => ?_)
   go_simp
   generalize hWn : (Bf.alloc (.cells #[.bool shr, .slice ahr nhr chr, .slice Ahr Nhr Chr, .bool shu, .slice ahu nhu chu, .slice Ahu Nhu Chu] 155)) = w29
   have hb : Below Bf.heap.size Bf w29 := by rw [← hWn]; exact (Below.refl _ _).alloc (Nat.le_refl _) _
   have Blf : Bx w29 (Bf.heap.size) 155 #[.bool shr, .slice ahr nhr chr, .slice Ahr Nhr Chr, .bool shu, .slice ahu nhu chu, .slice Ahu Nhu Chu] := by rw [← hWn]; exact Bx.new _ _ _
   have nx_f : wr.heap.size ≠ Bf.heap.size := by have := B0.lt; omega
   have sz_f : w.heap.size ≤ Bf.heap.size := hs.size
   replace hs := bStep hs hb
   replace B0 := B0.mono hb
   replace hp := hp.mono hb
   replace hq := hq.mono hb
   replace hr := hr.mono hb
   replace hu := hu.mono hb
   replace B5 := B5.mono (C2.kept PC.kept) hb
   replace B6 := B6.mono (C2.kept RC.kept) hb
   replace B1 := cellK B1 hb
   replace B2 := cellK B2 hb
   replace B3 := cellK B3 hb
   replace B4 := cellK B4 hb
   clear hb hWn
   refine hK.out _ _ ⟨B1, B2, B3, B4⟩ (fun hH => ?_)
   clear hK K
   try simp only [Act.put, List.setIfInBounds_toArray, List.set_cons_zero, List.set_cons_succ]
   clear hH
   refine U_one (i := 19) (by kernel_rfl) rfl (fun K hK => ?_)
   obtain ⟨css, Bi, Bj, Bk, B8⟩ := B6
   simp only [List.getElem_toArray, List.getElem_cons_succ, List.getElem_cons_zero]
   rw [if_pos (by rfl)]
   refine wp_append_lies _ _ _ _ (by rfl) w.heap.size 155 j0 _ 6 112 Tryz.underlying72 hj hy0 hy1 hy2 (by rfl) (by omega) _ _ css.flatten (by rfl) B8 ⟨Bf.heap.size, 0, none⟩ 1 1 [.bool shr, .slice ahr nhr chr, .slice Ahr Nhr Chr, .bool shu, .slice ahu nhu chu, .slice Ahu Nhu Chu] (by rfl) (by rfl) Blf.news ?_ (by omega) ?_ ?_ ?_ _ rfl ?_
   ·intro u hu; simp only [List.mem_cons, List.mem_nil_iff, or_false] at hu; rcases hu with rfl | rfl | rfl | rfl | rfl | rfl <;> rfl
   ·unfold maxLen; omega
   ·omega
   ·exact hs.size
   intro gpb cappb w30 Bb B9 Ba Bh
   have hk := KeepD.owns B8 B9 (by decide)
   have ho := owns_onlyT B8 B9
   replace hs := hs.grown B9 hs.size (fun k hk => (B8.lt k hk).1)
   replace B6 := OwnR.push (C2.kept RC.kept) Bi Bj Bk (x := (stpF ((n1, d1), (n2, d2)))) rfl ⟨[_, _, _], [_, _, _], rfl, ⟨_, _, _, rfl, hr⟩, ⟨_, _, _, rfl, hu⟩⟩ Bb hk
   replace B0 := B0.only ho (by decide)
   replace hp := hp.keep hk
   replace hq := hq.keep hk
   replace hr := hr.keep hk
   replace hu := hu.keep hk
   replace B5 := B5.onlyT (C2.kept PC.kept) ho (by decide) (by decide)
   replace B1 := B0.at 0 rfl
   replace B2 := B0.at 1 rfl
   replace B3 := B0.at 2 rfl
   replace B4 := B0.at 3 rfl
   clear hk ho Bi Bj Bk B8 Bb B9 Blf
   refine hK.out _ _ ⟨B1, B2, B3, B4⟩ (fun hH => ?_)
   clear hK K
   try simp only [Act.put, List.setIfInBounds_toArray, List.set_cons_zero, List.set_cons_succ]
   refine U_take (i := 20) (v := ?_) rfl (by kernel_rfl) (by kernel_rfl) (by kernel_rfl) (by kernel_rfl) (fun _ _ _ h => h) (Or.inl ⟨by rfl, ?_⟩) hH ?_
   rotate_left
   ·intro w B7
    try dsimp only at B7
    go_simp
    try with_reducible rfl
   try simp only [Act.put, List.setIfInBounds_toArray, List.set_cons_zero, List.set_cons_succ]
   clear hH
   refine U_last (by kernel_rfl) rfl (by kernel_rfl) (fun K hK => ?_)
   go_simp
   refine hK.out _ _ ?_
   clear hK K
   intro wl hW
   rw [hW]
   clear hW wl
   try simp only [Act.put, List.setIfInBounds_toArray, List.set_cons_zero, List.set_cons_succ]
   clear B1 B2 B3 B4
   go_wp2
   go_roundw
   case rel => exact ⟨k + 1, by omega, by go_num, hs, by rw [HM.out]; rw [hlm] at B5; exact B5, by rw [HM.out]; rw [hlm] at B6; exact B6⟩
   all_goals first | (simp [intOf]; done) | (simp [intOf]; omega)
  ·rw [List.take_of_length_le (by omega)] at B5 B6
   have O1 := Lib.hid B5.rows
   have O2 := Lib.hid B6.rows
   clear B5 B6
   go_wp2
   go_ret2
   exact ⟨_, _, rfl, O1.out, O2.out, hs⟩
theorem l7_brief (v : Value) (l : List DP) (w : World) (hl : RowsI 4 QC w v l) : Calls Tryz.prog 22 #[v] w (RetV w (.bool (briefQ l))) := by
 obtain ⟨ao, cap, rfl, hc1, hc2, hc3⟩ := hl.slice
 have hs := Below.refl w.heap.size w
 have HL := Lib.hid hl
 clear hl
 go_enter Tryz.func22, Tryz.ntmps22
 go_wp2
 go_loopw [7] (fun iv wr => ∃ k : Nat, k ≤ l.length ∧ iv = .int .i64 k ∧ (l.take k).all shortP = true ∧ Below w.heap.size w wr) (fun iv _ => l.length - (intOf iv).toNat)
 case atStart => exact ⟨0, Nat.zero_le _, rfl, rfl, hs⟩
 case round =>
  obtain ⟨k, hk, rfl, hp, hs⟩ := hrel
  have HP := Lib.hid hp
  clear hp
  by_cases Bh : k < l.length
  ·obtain ⟨⟨⟨n1, d1⟩, ⟨n2, d2⟩⟩, hx⟩ : ∃ x, l[k]? = some x := ⟨_, List.getElem?_eq_getElem Bh⟩
   obtain ⟨b, o, c, cs, hv, Bm, Ba, rfl⟩ := (HL.out.mono QC.kept hs).get hx
   obtain ⟨rfl, rfl⟩ := sliceE hv
   have e0 := Ba 0 _ rfl
   have e1 := Ba 1 _ rfl
   have e2 := Ba 2 _ rfl
   have e3 := Ba 3 _ rfl
   clear Ba
   simp only [Nat.add_zero] at e0
   have HT := Lib.hid (allF_take shortP l k _ hx HP.out)
   clear hx hv Bm
   dsimp only at e0 e1 e2 e3
   go_wp2_with fail
   clear e0 e1 e2 e3
   refine Calls.abs ?_
   intro w1 hW
   have hsz := hs.size
   have Bg : Below w.heap.size wr w1 := by rw [hW]; exact (Below.alloc (Below.refl w.heap.size wr) (by first | exact hs.size | (have := hs.size; simp; done) | (have := hs.size; simp; omega)) _)
   have Bl : Below w.heap.size w w1 := hs.trans Bg
   have hk : KeepD wr w1 := by rw [hW]; exact ((KeepD.refl _).alloc _)
   have Be : Bx w1 (wr.heap.size) 68 #[.int .i64 n1, .int .i64 d1, .int .i64 n2, .int .i64 d2] := by rw [hW]; exact (Bx.new' _ _ _ _ (by first | rfl | (simp; done)))
   replace hs := Bl
   clear Bl
   have B0 := Be
   clear Be
   clear hW hk hsz Bg
   have hz_w1 := B0.lt
   refine (l7_short _ _ _ (rowsF2 B0)).mono ?_
   rintro e w2 ⟨rfl, hb⟩
   replace hs := bStep hs hb
   replace B0 := B0.mono hb
   clear hb
   have HX := HT.out
   clear HT
   rw [show [(n1, d1), (n2, d2)].all shortF = shortP ((n1, d1), (n2, d2)) from rfl]
   generalize shortP ((n1, d1), (n2, d2)) = px at *
   cases px
   ·have := allF_false _ l (k + 1) HX
    have HF := Lib.hid (show briefQ l = false by unfold briefQ; rw [this]; rfl)
    clear this HX
    go_wp2
    go_ret
    exact ⟨by rw [HF.out]; rfl, hs⟩
   ·have HX := Lib.hid HX
    clear HP
    go_wp2
    go_roundw
    case rel => exact ⟨k + 1, by omega, by go_num, HX.out, hs⟩
    all_goals first | (simp [intOf]; done) | (simp [intOf]; omega)
  ·have HF := Lib.hid (show briefQ l = (decide ((l.length : Int) ≤ 20)) by unfold briefQ; rw [← List.take_of_length_le (show l.length ≤ k by omega), HP.out, List.take_of_length_le (show l.length ≤ k by omega)]; rfl)
   clear HP
   by_cases h20 : l.length ≤ 20
   ·have hd : decide ((l.length : Int) ≤ 20) = true := decide_eq_true (by omega)
    rw [hd] at HF
    have hd2 : ((l.length : Int) ≤ 20) = True := eq_true (by omega)
    clear hd
    go_wp2
    go_ret
    exact ⟨by rw [HF.out]; rfl, hs⟩
   ·have hd : decide ((l.length : Int) ≤ 20) = false := decide_eq_false (by omega)
    rw [hd] at HF
    have hd2 : ((l.length : Int) ≤ 20) = False := eq_false (by omega)
    clear hd
    go_wp2
    go_ret
    exact ⟨by rw [HF.out]; rfl, hs⟩
end Go.Proofs.YtkfekkhhfpkfaaaGreat
