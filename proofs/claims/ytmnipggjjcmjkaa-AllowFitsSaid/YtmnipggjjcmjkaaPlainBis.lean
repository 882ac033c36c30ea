/-
  A bound that is found by halves: plain functions, what they find, how they rise. No program is in sight here.
-/
import Derived.Test.YtmnipggjjcmjkaaPlainTail
set_option linter.unusedSimpArgs false
set_option linter.unusedVariables false
namespace Go.Proofs.Ytmnipggjjcmjkaa

/-- The greatest number below hi that halves find, from lo on. -/
def bisF (P : Nat → Bool) : Nat → Nat → Nat → Nat
  | 0, lo, _ => lo
  | d + 1, lo, hi => if hi ≤ lo + 1 then lo else if P ((lo + hi) / 2) then bisF P d ((lo + hi) / 2) hi else bisF P d lo ((lo + hi) / 2)
theorem bisF_fuel (P : Nat → Bool) : ∀ d e lo hi, hi ≤ lo + d + 1 → hi ≤ lo + e + 1 → bisF P d lo hi = bisF P e lo hi
  | 0, 0, _, _, _, _ => rfl
  | 0, e + 1, lo, hi, h, _ => (if_pos (show hi ≤ lo + 1 by omega)).symm
  | d + 1, 0, lo, hi, _, h => if_pos (show hi ≤ lo + 1 by omega)
  | d + 1, e + 1, lo, hi, h1, h2 => by
    unfold bisF
    split
    · rfl
    · split
      · exact bisF_fuel P d e _ _ (by omega) (by omega)
      · exact bisF_fuel P d e _ _ (by omega) (by omega)
def bisQ (P : Nat → Bool) (lo hi : Nat) : Nat := bisF P (hi - lo) lo hi
theorem bisQ_end {P : Nat → Bool} {lo hi : Nat} (h : hi ≤ lo + 1) : bisQ P lo hi = lo := by
  unfold bisQ
  rw [bisF_fuel P _ 0 lo hi (by omega) (by omega)]; rfl
theorem bisQ_yes {P : Nat → Bool} {lo hi : Nat} (h : ¬ hi ≤ lo + 1) (hp : P ((lo + hi) / 2) = true) : bisQ P lo hi = bisQ P ((lo + hi) / 2) hi := by
  unfold bisQ
  rw [bisF_fuel P (hi - lo) (hi + 1) lo hi (by omega) (by omega), bisF, if_neg h, if_pos hp]
  exact bisF_fuel P _ _ _ _ (by omega) (by omega)
theorem bisQ_no {P : Nat → Bool} {lo hi : Nat} (h : ¬ hi ≤ lo + 1) (hp : P ((lo + hi) / 2) = false) : bisQ P lo hi = bisQ P lo ((lo + hi) / 2) := by
  unfold bisQ
  rw [bisF_fuel P (hi - lo) (hi + 1) lo hi (by omega) (by omega), bisF, if_neg h, if_neg (by rw [hp]; decide)]
  exact bisF_fuel P _ _ _ _ (by omega) (by omega)
theorem bis_spec (P : Nat → Bool) : ∀ d lo hi, lo < hi → hi ≤ lo + d + 1 → lo ≤ bisF P d lo hi ∧ bisF P d lo hi < hi ∧ (bisF P d lo hi = lo ∨ P (bisF P d lo hi) = true) ∧ (bisF P d lo hi + 1 = hi ∨ P (bisF P d lo hi + 1) = false)
  | 0, lo, hi, h, h1 => ⟨Nat.le_refl _, h, .inl rfl, .inl (by show lo + 1 = hi; omega)⟩
  | d + 1, lo, hi, h, h1 => by
    unfold bisF
    split
    · exact ⟨Nat.le_refl _, h, .inl rfl, .inl (by omega)⟩
    · split
      · rename_i hp
        have a := bis_spec P d ((lo + hi) / 2) hi (by omega) (by omega)
        refine ⟨by omega, a.2.1, ?_, a.2.2.2⟩
        rcases a.2.2.1 with e | e
        · rw [e]; exact .inr hp
        · exact .inr e
      · rename_i hp
        have a := bis_spec P d lo ((lo + hi) / 2) (by omega) (by omega)
        refine ⟨a.1, by omega, a.2.2.1, ?_⟩
        rcases a.2.2.2 with e | e
        · rw [e]; exact .inr (by simpa using hp)
        · exact .inr e
theorem bisQ_spec (P : Nat → Bool) {s : Nat} (h : 0 < s) : bisQ P 0 s < s ∧ (bisQ P 0 s = 0 ∨ P (bisQ P 0 s) = true) ∧ (bisQ P 0 s + 1 = s ∨ P (bisQ P 0 s + 1) = false) :=
  (bis_spec P (s - 0) 0 s h (by omega)).2
/-- What holds more often is found later. -/
theorem bisQ_mono {P Q : Nat → Bool} {s : Nat} (h : 0 < s) (h0 : Q 0 = true) (hPQ : ∀ i, i ≤ s → P i = true → Q i = true) (hQ : ∀ i j, i ≤ j → j ≤ s → Q j = true → Q i = true) : bisQ P 0 s ≤ bisQ Q 0 s := by
  have a := bisQ_spec P h
  have b := bisQ_spec Q h
  refine Decidable.byContradiction fun c => ?_
  have e : Q (bisQ P 0 s) = true := by
    rcases a.2.1 with e | e
    · rw [e]; exact h0
    · exact hPQ _ (by omega) e
  rcases b.2.2 with k | k
  · omega
  · rw [hQ _ _ (show bisQ Q 0 s + 1 ≤ bisQ P 0 s by omega) (by omega) e] at k
    cases k

/-- A class of n tries, f finds, proves with the confidence c that the chance is above p. -/
def prvQ (n f : Nat) (c p : Rat) : Bool := decide (tlQ p n f ≤ 1 - c)
/-- The place of a step. -/
def atQs (s i : Nat) : Rat := ((i : Int) : Rat) / ((s : Int) : Rat)
/-- The number of steps at which the bound of a class lies. -/
def detQ (n f : Nat) (c : Rat) (s : Nat) : Nat := bisQ (fun i => prvQ n f c (atQs s i)) 0 s
theorem atQs_bd {s i : Nat} (hs : 0 < s) (h : i ≤ s) : 0 ≤ atQs s i ∧ atQs s i ≤ 1 := by
  have a : (0 : Rat) < ((s : Int) : Rat) := by exact_mod_cast hs
  have b : (0 : Rat) ≤ ((i : Int) : Rat) := by exact_mod_cast Nat.zero_le i
  have c : ((i : Int) : Rat) ≤ ((s : Int) : Rat) := by exact_mod_cast h
  have e : atQs s i * ((s : Int) : Rat) = ((i : Int) : Rat) := by unfold atQs; grind
  constructor
  · exact Rat.not_lt.1 fun h => by
      have := Rat.mul_pos (show 0 < - atQs s i by grind) a
      grind
  · exact Rat.not_lt.1 fun h => by
      have := Rat.mul_pos (show 0 < atQs s i - 1 by grind) a
      grind
theorem atQs_mono {s i j : Nat} (hs : 0 < s) (h : i ≤ j) : atQs s i ≤ atQs s j := by
  have a : (0 : Rat) < ((s : Int) : Rat) := by exact_mod_cast hs
  have c : ((i : Int) : Rat) ≤ ((j : Int) : Rat) := by exact_mod_cast h
  have e : atQs s i * ((s : Int) : Rat) = ((i : Int) : Rat) := by unfold atQs; grind
  have e' : atQs s j * ((s : Int) : Rat) = ((j : Int) : Rat) := by unfold atQs; grind
  exact Rat.not_lt.1 fun h => by
    have := Rat.mul_pos (show 0 < atQs s i - atQs s j by grind) a
    grind
theorem atQs_lt {s i : Nat} (hs : 0 < s) : atQs s i < atQs s (i + 1) := by
  have a : (0 : Rat) < ((s : Int) : Rat) := by exact_mod_cast hs
  have e : atQs s i * ((s : Int) : Rat) = ((i : Int) : Rat) := by unfold atQs; grind
  have e' : atQs s (i + 1) * ((s : Int) : Rat) = ((i : Int) : Rat) + 1 := by
    have : (((i + 1 : Nat) : Int) : Rat) = ((i : Int) : Rat) + 1 := by push_cast; rfl
    unfold atQs; rw [this]; grind
  refine Rat.not_le.1 fun h => ?_
  have := Rat.mul_nonneg (show 0 ≤ atQs s i - atQs s (i + 1) by grind) (Rat.le_of_lt a)
  grind
theorem atQs_zero (s : Nat) : atQs s 0 = 0 := by
  show ((0 : Int) : Rat) / _ = 0
  simp [Rat.div_def]
theorem atQs_all {s : Nat} (hs : 0 < s) : atQs s s = 1 := by
  have a : (0 : Rat) < ((s : Int) : Rat) := by exact_mod_cast hs
  unfold atQs; grind
theorem tlQ_nil {n f : Nat} (h : 0 < f) : tlQ 0 n f = 0 := by
  induction n generalizing f with
  | zero => obtain ⟨g, rfl⟩ : ∃ g, f = g + 1 := ⟨f - 1, by omega⟩; rfl
  | succ n ih =>
    obtain ⟨g, rfl⟩ : ∃ g, f = g + 1 := ⟨f - 1, by omega⟩
    show tlQ 0 n (g + 1) * (1 - 0) + tlQ 0 n g * 0 = 0
    rw [ih (by omega)]; grind
theorem tlQ_one {n f : Nat} (h : f ≤ n) : tlQ 1 n f = 1 := by
  induction n generalizing f with
  | zero => obtain rfl : f = 0 := by omega
            rfl
  | succ n ih =>
    cases f with
    | zero => rfl
    | succ g =>
      show tlQ 1 n (g + 1) * (1 - 1) + tlQ 1 n g * 1 = 1
      rw [ih (show g ≤ n by omega)]; grind
section
variable {n f g s : Nat} {c : Rat}
/-- With more finds the bound is not smaller. -/
theorem det_mono (hs : 0 < s) (h0 : 0 < f) (hfg : f ≤ g) (c1 : c ≤ 1) : detQ n f c s ≤ detQ n g c s := by
  refine bisQ_mono hs ?_ (fun i hi h => ?_) (fun i j hij hj h => ?_)
  · show prvQ n g c (atQs s 0) = true
    unfold prvQ
    rw [atQs_zero, tlQ_nil (by omega)]
    exact decide_eq_true (by grind)
  · have b := atQs_bd hs hi
    have a := of_decide_eq_true h
    exact decide_eq_true (Rat.le_trans (tlQ_anti b.1 b.2 n hfg) a)
  · have b := atQs_bd hs (show i ≤ s by omega)
    have b' := atQs_bd hs hj
    have a := of_decide_eq_true h
    exact decide_eq_true (Rat.le_trans (tlQ_mono b.1 (atQs_mono hs hij) b'.2 n g) a)
/-- At the bound the tail is small, a step further it is not. -/
theorem det_lo (hs : 0 < s) (h0 : 0 < f) (c1 : c ≤ 1) : tlQ (atQs s (detQ n f c s)) n f ≤ 1 - c := by
  rcases (bisQ_spec (fun i => prvQ n f c (atQs s i)) hs).2.1 with e | e
  · unfold detQ
    rw [e, atQs_zero, tlQ_nil h0]; grind
  · exact of_decide_eq_true e
theorem det_hi (hs : 0 < s) (hf : f ≤ n) (c0 : 0 < c) : 1 - c < tlQ (atQs s (detQ n f c s + 1)) n f := by
  rcases (bisQ_spec (fun i => prvQ n f c (atQs s i)) hs).2.2 with e | e
  · have e' : detQ n f c s + 1 = s := e
    rw [e', atQs_all hs, tlQ_one hf]; grind
  · exact Rat.not_le.1 (of_decide_eq_false e)
theorem det_lt (hs : 0 < s) : detQ n f c s < s := (bisQ_spec (fun i => prvQ n f c (atQs s i)) hs).1
end
end Go.Proofs.Ytmnipggjjcmjkaa
