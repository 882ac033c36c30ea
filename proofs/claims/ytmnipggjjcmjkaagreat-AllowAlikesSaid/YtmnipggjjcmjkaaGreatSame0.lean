/-
  Alike as the law asks for it: the doubled ranks of two batches; the other order; a rising function; a batch and itself. No function of the program is walked here.
-/
import Derived.Test.YtmnipggjjcmjkaaGreatAlkM
set_option linter.unusedSimpArgs false
set_option linter.unusedVariables false
namespace Go.Proofs.YtmnipggjjcmjkaaGreat
open Go.RowKit Dg

/-- 2 for one that is below, 1 for one that is equal. -/
def cmQ (x y : Rat) : Int := max (1 + sgQ (x - y)) 0
def rkS (L : List Rat) (x : Rat) : Int := 1 + sumI (L.map (cmQ x))
theorem rnS_eq (L : List Rat) (x : Rat) : ∀ j, j ≤ L.length → rnS L x j = 1 + sumI ((L.take j).map (cmQ x))
  | 0, _ => by simp [rnS, sumI]
  | j + 1, h => by
    have e : L[j] = nthQ L j := by
      have := nthQ_some (show j < L.length by omega)
      rw [List.getElem?_eq_getElem (show j < L.length by omega)] at this
      injection this
    rw [List.take_succ_eq_append_getElem (show j < L.length by omega), List.map_append, sumI_append]
    show rnS L x j + cmQ x (nthQ L j) = _
    rw [rnS_eq L x j (by omega), e]
    show _ = 1 + (_ + (cmQ x (nthQ L j) + 0))
    omega
theorem rkT_map (L : List Rat) : rkT L L.length = L.map (rkS L) := by
  refine List.ext_getElem? fun i => ?_
  unfold rkT
  rw [List.getElem?_map, List.getElem?_map]
  by_cases h : i < L.length
  · rw [List.getElem?_range h, nthQ_some h]
    show some (rnS L (nthQ L i) L.length) = some (rkS L (nthQ L i))
    rw [rnS_eq L _ L.length (Nat.le_refl _), List.take_length]; rfl
  · rw [List.getElem?_eq_none (by simpa using h), List.getElem?_eq_none (by omega)]; rfl
theorem rkS_perm {L L' : List Rat} (h : L.Perm L') (x : Rat) : rkS L x = rkS L' x := by unfold rkS; rw [sumI_perm (h.map (cmQ x))]
theorem tri3 (x y : Rat) : x < y ∨ x = y ∨ y < x := by
  rcases Rat.le_total (a := x) (b := y) with h | h
  · by_cases e : x = y
    · exact .inr (.inl e)
    · exact .inl (Rat.not_le.1 fun h2 => e (Rat.le_antisymm h h2))
  · by_cases e : x = y
    · exact .inr (.inl e)
    · exact .inr (.inr (Rat.not_le.1 fun h2 => e (Rat.le_antisymm h2 h)))
theorem sg_neg {x : Rat} (h : x < 0) : sgQ x = -1 := by have := (s1_lt x).2 h; have := sgQ_bd x; omega
theorem sg_zero {x : Rat} (h : x = 0) : sgQ x = 0 := (s1_eq x).2 h
theorem sg_pos {x : Rat} (h : 0 < x) : sgQ x = 1 := by have := (s1_pos x).2 h; have := sgQ_bd x; omega
theorem sgQ_neg (x : Rat) : sgQ (-x) = - sgQ x := by
  rcases tri3 x 0 with h | h | h
  · rw [sg_neg h, sg_pos (show 0 < -x by grind)]; rfl
  · rw [sg_zero h, sg_zero (show -x = 0 by grind)]; rfl
  · rw [sg_pos h, sg_neg (show -x < 0 by grind)]
theorem cmQ_pair (x y : Rat) : cmQ x y + cmQ y x = 2 := by
  have e : sgQ (y - x) = - sgQ (x - y) := by rw [← sgQ_neg]; congr 1; grind
  have b := sgQ_bd (x - y)
  unfold cmQ
  rw [e]; omega
theorem cmQ_self (x : Rat) : cmQ x x = 1 := by have := cmQ_pair x x; omega
theorem sum_add {α : Type} (f g : α → Int) : ∀ l : List α, sumI (l.map fun x => f x + g x) = sumI (l.map f) + sumI (l.map g)
  | [] => rfl
  | a :: l => by
    show (f a + g a) + sumI (l.map fun x => f x + g x) = (f a + sumI (l.map f)) + (g a + sumI (l.map g))
    rw [sum_add f g l]; omega
/-- The doubled ranks add up. -/
theorem rk_sum (L : List Rat) : sumI (L.map (rkS L)) = (L.length : Int) * (L.length + 1) := by
  have key : ∀ L : List Rat, sumI (L.map fun x => sumI (L.map (cmQ x))) = (L.length : Int) * L.length := by
    intro L
    induction L with
    | nil => rfl
    | cons a l ih =>
      show (cmQ a a + sumI (l.map (cmQ a))) + sumI (l.map fun x => cmQ x a + sumI (l.map (cmQ x))) = _
      rw [sum_add, ih, cmQ_self]
      have h2 : ∀ l : List Rat, sumI (l.map (cmQ a)) + sumI (l.map fun x => cmQ x a) = 2 * l.length := by
        intro l
        induction l with
        | nil => rfl
        | cons b l ih2 =>
          have := cmQ_pair a b
          show (cmQ a b + sumI (l.map (cmQ a))) + (cmQ b a + sumI (l.map fun x => cmQ x a)) = 2 * ((l.length + 1 : Nat) : Int)
          omega
      have := h2 l
      rw [List.length_cons]
      push_cast
      rw [Int.add_mul, Int.mul_add]
      omega
  have h1 : sumI (L.map fun x => (1 : Int) + sumI (L.map (cmQ x))) = L.length + (L.length : Int) * L.length := by
    rw [sum_add (fun _ => (1 : Int)), key]
    congr 1
    have : ∀ l : List Rat, sumI (l.map fun _ => (1 : Int)) = l.length := by
      intro l
      induction l with
      | nil => rfl
      | cons a l ih => show 1 + sumI (l.map fun _ => (1 : Int)) = ((l.length + 1 : Nat) : Int); omega
    exact this L
  show sumI (L.map fun x => (1 : Int) + sumI (L.map (cmQ x))) = _
  rw [h1, Int.mul_add, Int.mul_one]; omega
/-- How alike two batches are. -/
def alA (a b : List Rat) : Rat := alkQ (rkT (a ++ b) (a ++ b).length) a.length
theorem alA_eq (a b : List Rat) : alA a b = alkQ (a.map (rkS (a ++ b)) ++ b.map (rkS (a ++ b))) (a.map (rkS (a ++ b))).length := by
  unfold alA
  rw [rkT_map, List.map_append, List.length_map]
theorem rk_sum2 (a b : List Rat) : sumI (a.map (rkS (a ++ b)) ++ b.map (rkS (a ++ b))) = ((a.map (rkS (a ++ b)) ++ b.map (rkS (a ++ b))).length : Int) * ((a.map (rkS (a ++ b)) ++ b.map (rkS (a ++ b))).length + 1) := by
  rw [← List.map_append, rk_sum, List.length_map]
theorem alA_swap (a b : List Rat) : alA b a = alA a b := by
  rw [alA_eq, alA_eq]
  have e : rkS (b ++ a) = rkS (a ++ b) := funext fun x => rkS_perm List.perm_append_comm x
  rw [e]
  obtain ⟨h1, h2⟩ := alk_swap (rk_sum2 a b)
  unfold alkQ
  rw [h1, h2]
theorem mul_self_nn1 (x : Rat) : 0 ≤ x * x := by
  rcases Rat.le_total (a := 0) (b := x) with h | h
  · exact Rat.mul_nonneg h h
  · have := Rat.mul_nonneg (show 0 ≤ -x by grind) (show 0 ≤ -x by grind); grind
/-- A rising function, and the values backwards. -/
def gR (t x : Rat) : Rat := x * x * x + x * t
theorem gR_up {t x y : Rat} (ht : 0 ≤ t) (h : x < y) : gR t x < gR t y := by
  obtain ⟨d, rfl⟩ : ∃ d, y = x + d := ⟨y - x, by grind⟩
  have hd : 0 < d := by grind
  have n1 := mul_self_nn1 (x + d / 2)
  have n2 := Rat.mul_pos hd hd
  have n3 : 0 < 3 * ((x + d / 2) * (x + d / 2)) + d * d / 4 := by grind
  have n4 := Rat.mul_pos hd n3
  have n5 := Rat.mul_nonneg (Rat.le_of_lt hd) ht
  unfold gR
  grind
theorem cmQ_gR {t x y : Rat} (ht : 0 ≤ t) : cmQ (gR t x) (gR t y) = cmQ x y := by
  unfold cmQ
  rcases tri3 x y with h | h | h
  · have := gR_up ht h
    rw [sg_neg (show gR t x - gR t y < 0 by grind), sg_neg (show x - y < 0 by grind)]
  · subst h
    rw [sg_zero (show gR t x - gR t x = 0 by grind), sg_zero (show x - x = 0 by grind)]
  · have := gR_up ht h
    rw [sg_pos (show 0 < gR t x - gR t y by grind), sg_pos (show 0 < x - y by grind)]
def rsR (t : Rat) (L : List Rat) (k : Nat) : List Rat := (L.reverse.take k).map (gR t)
theorem rsR_next {t : Rat} {L : List Rat} {j : Nat} (h : j < L.length) : rsR t L (L.length - j) = rsR t L (L.length - (j + 1)) ++ [gR t (nthQ L j)] := by
  unfold rsR
  have hl : L.length - (j + 1) < L.reverse.length := by rw [List.length_reverse]; omega
  rw [show L.length - j = L.length - (j + 1) + 1 by omega, List.take_succ_eq_append_getElem hl, List.map_append, List.getElem_reverse]
  have e : L[L.length - 1 - (L.length - (j + 1))]'(by omega) = nthQ L j := by
    have h0 := nthQ_some h
    rw [List.getElem?_eq_getElem h] at h0
    injection h0 with h0
    rw [← h0]; congr 1; omega
  rw [e]; rfl
theorem rsR_len (t : Rat) (L : List Rat) (k : Nat) : (rsR t L k).length ≤ k := by unfold rsR; rw [List.length_map, List.length_take]; omega
theorem rsR_all (t : Rat) (L : List Rat) : rsR t L L.length = L.reverse.map (gR t) := by unfold rsR; rw [List.take_of_length_le (by simp)]
theorem alA_rising {t : Rat} (ht : 0 ≤ t) (a b : List Rat) : alA (a.reverse.map (gR t)) (b.reverse.map (gR t)) = alA a b := by
  rw [alA_eq, alA_eq]
  have e : ∀ x, rkS (a.reverse.map (gR t) ++ b.reverse.map (gR t)) (gR t x) = rkS (a ++ b) x := fun x => by
    rw [← List.map_append]
    unfold rkS
    rw [List.map_map]
    have e2 : (cmQ (gR t x) ∘ gR t) = cmQ x := funext fun y => cmQ_gR ht
    rw [e2, sumI_perm (((List.reverse_perm a).append (List.reverse_perm b)).map (cmQ x))]
  have e3 : (rkS (a.reverse.map (gR t) ++ b.reverse.map (gR t)) ∘ gR t) = rkS (a ++ b) := funext e
  rw [List.map_map, List.map_map, e3, List.map_reverse, List.map_reverse]
  obtain ⟨h1, h2⟩ := alk_perm (List.reverse_perm (a.map (rkS (a ++ b)))) (List.reverse_perm (b.map (rkS (a ++ b))))
  unfold alkQ
  rw [h1, h2]
theorem allK_pos (a b : List Rat) : 0 < allK (a.map (rkS (a ++ b)) ++ b.map (rkS (a ++ b))) (a.map (rkS (a ++ b))).length ∧ 0 < somK (a.map (rkS (a ++ b)) ++ b.map (rkS (a ++ b))) (a.map (rkS (a ++ b))).length := by
  have h := somK_pos (R := a.map (rkS (a ++ b)) ++ b.map (rkS (a ++ b))) (m := (a.map (rkS (a ++ b))).length) (by simp)
  exact ⟨Nat.lt_of_lt_of_le h (somK_le _ _), h⟩
theorem frac_one {n : Nat} (h : 0 < n) : ((n : Int) : Rat) / ((n : Int) : Rat) = 1 := by
  have : (0 : Rat) < ((n : Int) : Rat) := by exact_mod_cast h
  grind
theorem alA_self (a : List Rat) : alA a a = 1 := by
  rw [alA_eq]
  have h := alk_self (rk_sum2 a a)
  unfold alkQ
  rw [h]
  exact frac_one (allK_pos a a).1
theorem alA_bd (a b : List Rat) : 0 < alA a b ∧ alA a b ≤ 1 := by
  rw [alA_eq]
  obtain ⟨h1, h2⟩ := allK_pos a b
  have h3 := somK_le (a.map (rkS (a ++ b)) ++ b.map (rkS (a ++ b))) (a.map (rkS (a ++ b))).length
  unfold alkQ
  generalize somK _ _ = s at *
  generalize allK _ _ = n at *
  have p1 : (0 : Rat) < ((s : Int) : Rat) := by exact_mod_cast h2
  have p2 : (0 : Rat) < ((n : Int) : Rat) := by exact_mod_cast h1
  have p3 : ((s : Int) : Rat) ≤ ((n : Int) : Rat) := by exact_mod_cast h3
  obtain ⟨q, hq⟩ : ∃ q : Rat, ((s : Int) : Rat) / ((n : Int) : Rat) = q := ⟨_, rfl⟩
  have e : q * ((n : Int) : Rat) = ((s : Int) : Rat) := by grind
  rw [hq]
  constructor
  · exact Rat.not_le.1 fun c => by
      have := Rat.mul_nonneg (show 0 ≤ -q by grind) (Rat.le_of_lt p2); grind
  · exact Rat.not_lt.1 fun c => by
      have := Rat.mul_pos (show 0 < q - 1 by grind) p2; grind
theorem alA_sz {a b : List Rat} (h : a.length + b.length ≤ 20) : SzQ 1 (alA a b) := by
  have h3 := somK_le (rkT (a ++ b) (a ++ b).length) a.length
  have h4 : allK (rkT (a ++ b) (a ++ b).length) a.length ≤ 2 ^ 20 := by
    have := sm_len (rkT (a ++ b) (a ++ b).length) a.length
    rw [rkT_len] at this
    exact Nat.le_trans this (Nat.pow_le_pow_right (by decide) (by rw [List.length_append]; exact h))
  have h5 := allK_pos a b
  rw [← List.map_append, ← rkT_map, List.length_map] at h5
  exact szQ_frac (by omega) (by omega) (by omega)
/-- Values of bytes. -/
def valQ (l : List Int) (n : Nat) : List Rat := (l.take n).map fun x => ((x : Int) : Rat)
end Go.Proofs.YtmnipggjjcmjkaaGreat
