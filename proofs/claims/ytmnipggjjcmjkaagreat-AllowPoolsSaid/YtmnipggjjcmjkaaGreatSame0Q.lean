/-
  Alike as the law asks for it: the doubled ranks of two batches; the other order; a rising function; a batch and itself. No function of the program is walked here.
-/
import Derived.Test.YtmnipggjjcmjkaaGreatAlkMQ
set_option linter.unusedSimpArgs false
set_option linter.unusedVariables false
namespace Go.Proofs.YtmnipggjjcmjkaaGreat
open Go.RowKit Dg

/-- 2 for one that is below, 1 for one that is equal. -/
def cmQ (x y : Rat) : Int := max (1 + sgQ (x - y)) 0
def rkS (L : List Rat) (x : Rat) : Int := 1 + sumI (L.map (cmQ x))
theorem rnS_eq (L : List Rat) (x : Rat) : ∀ j, j ≤ L.length → rnS L x j = 1 + sumI ((L.take j).map (cmQ x))
  | 0, _ => by simp [rnS, sumI]
  | j + 1, h => by
    have e : L[j] = nthQ L j := by
      have := nthQ_some (show j < L.length by omega)
      rw [List.getElem?_eq_getElem (show j < L.length by omega)] at this
      injection this
    rw [List.take_succ_eq_append_getElem (show j < L.length by omega), List.map_append, sumI_append]
    show rnS L x j + cmQ x (nthQ L j) = _
    rw [rnS_eq L x j (by omega), e]
    show _ = 1 + (_ + (cmQ x (nthQ L j) + 0))
    omega
theorem rkT_map (L : List Rat) : rkT L L.length = L.map (rkS L) := by
  refine List.ext_getElem? fun i => ?_
  unfold rkT
  rw [List.getElem?_map, List.getElem?_map]
  by_cases h : i < L.length
  · rw [List.getElem?_range h, nthQ_some h]
    show some (rnS L (nthQ L i) L.length) = some (rkS L (nthQ L i))
    rw [rnS_eq L _ L.length (Nat.le_refl _), List.take_length]; rfl
  · rw [List.getElem?_eq_none (by simpa using h), List.getElem?_eq_none (by omega)]; rfl
theorem tri3 (x y : Rat) : x < y ∨ x = y ∨ y < x := by
  rcases Rat.le_total (a := x) (b := y) with h | h
  · by_cases e : x = y
    · exact .inr (.inl e)
    · exact .inl (Rat.not_le.1 fun h2 => e (Rat.le_antisymm h h2))
  · by_cases e : x = y
    · exact .inr (.inl e)
    · exact .inr (.inr (Rat.not_le.1 fun h2 => e (Rat.le_antisymm h2 h)))
theorem sg_neg {x : Rat} (h : x < 0) : sgQ x = -1 := by have := (s1_lt x).2 h; have := sgQ_bd x; omega
theorem sg_zero {x : Rat} (h : x = 0) : sgQ x = 0 := (s1_eq x).2 h
theorem sg_pos {x : Rat} (h : 0 < x) : sgQ x = 1 := by have := (s1_pos x).2 h; have := sgQ_bd x; omega
theorem sgQ_neg (x : Rat) : sgQ (-x) = - sgQ x := by
  rcases tri3 x 0 with h | h | h
  · rw [sg_neg h, sg_pos (show 0 < -x by grind)]; rfl
  · rw [sg_zero h, sg_zero (show -x = 0 by grind)]; rfl
  · rw [sg_pos h, sg_neg (show -x < 0 by grind)]
theorem cmQ_pair (x y : Rat) : cmQ x y + cmQ y x = 2 := by
  have e : sgQ (y - x) = - sgQ (x - y) := by rw [← sgQ_neg]; congr 1; grind
  have b := sgQ_bd (x - y)
  unfold cmQ
  rw [e]; omega
theorem cmQ_self (x : Rat) : cmQ x x = 1 := by have := cmQ_pair x x; omega
theorem sum_add {α : Type} (f g : α → Int) : ∀ l : List α, sumI (l.map fun x => f x + g x) = sumI (l.map f) + sumI (l.map g)
  | [] => rfl
  | a :: l => by
    show (f a + g a) + sumI (l.map fun x => f x + g x) = (f a + sumI (l.map f)) + (g a + sumI (l.map g))
    rw [sum_add f g l]; omega
/-- The doubled ranks add up. -/
theorem rk_sum (L : List Rat) : sumI (L.map (rkS L)) = (L.length : Int) * (L.length + 1) := by
  have key : ∀ L : List Rat, sumI (L.map fun x => sumI (L.map (cmQ x))) = (L.length : Int) * L.length := by
    intro L
    induction L with
    | nil => rfl
    | cons a l ih =>
      show (cmQ a a + sumI (l.map (cmQ a))) + sumI (l.map fun x => cmQ x a + sumI (l.map (cmQ x))) = _
      rw [sum_add, ih, cmQ_self]
      have h2 : ∀ l : List Rat, sumI (l.map (cmQ a)) + sumI (l.map fun x => cmQ x a) = 2 * l.length := by
        intro l
        induction l with
        | nil => rfl
        | cons b l ih2 =>
          have := cmQ_pair a b
          show (cmQ a b + sumI (l.map (cmQ a))) + (cmQ b a + sumI (l.map fun x => cmQ x a)) = 2 * ((l.length + 1 : Nat) : Int)
          omega
      have := h2 l
      rw [List.length_cons]
      push_cast
      rw [Int.add_mul, Int.mul_add]
      omega
  have h1 : sumI (L.map fun x => (1 : Int) + sumI (L.map (cmQ x))) = L.length + (L.length : Int) * L.length := by
    rw [sum_add (fun _ => (1 : Int)), key]
    congr 1
    have : ∀ l : List Rat, sumI (l.map fun _ => (1 : Int)) = l.length := by
      intro l
      induction l with
      | nil => rfl
      | cons a l ih => show 1 + sumI (l.map fun _ => (1 : Int)) = ((l.length + 1 : Nat) : Int); omega
    exact this L
  show sumI (L.map fun x => (1 : Int) + sumI (L.map (cmQ x))) = _
  rw [h1, Int.mul_add, Int.mul_one]; omega
/-- How alike two batches are. -/
def alA (a b : List Rat) : Rat := alkQ (rkT (a ++ b) (a ++ b).length) a.length
theorem allK_pos (a b : List Rat) : 0 < allK (a.map (rkS (a ++ b)) ++ b.map (rkS (a ++ b))) (a.map (rkS (a ++ b))).length ∧ 0 < somK (a.map (rkS (a ++ b)) ++ b.map (rkS (a ++ b))) (a.map (rkS (a ++ b))).length := by
  have h := somK_pos (R := a.map (rkS (a ++ b)) ++ b.map (rkS (a ++ b))) (m := (a.map (rkS (a ++ b))).length) (by simp)
  exact ⟨Nat.lt_of_lt_of_le h (somK_le _ _), h⟩
theorem alA_sz {a b : List Rat} (h : a.length + b.length ≤ 20) : SzQ 1 (alA a b) := by
  have h3 := somK_le (rkT (a ++ b) (a ++ b).length) a.length
  have h4 : allK (rkT (a ++ b) (a ++ b).length) a.length ≤ 2 ^ 20 := by
    have := sm_len (rkT (a ++ b) (a ++ b).length) a.length
    rw [rkT_len] at this
    exact Nat.le_trans this (Nat.pow_le_pow_right (by decide) (by rw [List.length_append]; exact h))
  have h5 := allK_pos a b
  rw [← List.map_append, ← rkT_map, List.length_map] at h5
  exact szQ_frac (by omega) (by omega) (by omega)
end Go.Proofs.YtmnipggjjcmjkaaGreat
