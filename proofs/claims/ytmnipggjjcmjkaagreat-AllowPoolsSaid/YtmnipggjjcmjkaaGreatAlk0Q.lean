/-
  Sums of k of a list of numbers, as often as they come; what the order of the list, and the rest of the list, make of them; the doubled ranks. No program is in sight here.
-/

set_option linter.unusedSimpArgs false
set_option linter.unusedVariables false
namespace Go.Proofs.YtmnipggjjcmjkaaGreat

/-- The sums of k of the numbers. -/
def sm : List Int → Nat → List Int
  | [], 0 => [0]
  | [], _ + 1 => []
  | _ :: _, 0 => [0]
  | r :: l, k + 1 => sm l (k + 1) ++ (sm l k).map (· + r)
theorem sm_zero (l : List Int) : sm l 0 = [0] := by cases l <;> rfl
theorem sm_cons (r : Int) (l : List Int) (k : Nat) : sm (r :: l) (k + 1) = sm l (k + 1) ++ (sm l k).map (· + r) := rfl
def cnt (l : List Int) (k : Nat) (s : Int) : Nat := (sm l k).count s
theorem count_shift (l : List Int) (r s : Int) : (l.map (· + r)).count s = l.count (s - r) := by
  induction l with
  | nil => rfl
  | cons a l ih =>
    rw [List.map_cons, List.count_cons, List.count_cons, ih]
    congr 1
    by_cases h : a + r = s
    · have : a = s - r := by omega
      simp [this]
    · have : ¬ a = s - r := by omega
      simp [h, this]
theorem cnt_cons (r : Int) (l : List Int) (k : Nat) (s : Int) : cnt (r :: l) (k + 1) s = cnt l (k + 1) s + cnt l k (s - r) := by
  unfold cnt
  rw [sm_cons, List.count_append, count_shift]
theorem cnt_zero (l : List Int) (s : Int) : cnt l 0 s = if s = 0 then 1 else 0 := by
  unfold cnt
  rw [sm_zero, List.count_cons]
  by_cases h : s = 0
  · subst h; rfl
  · have : ¬ (0 : Int) = s := fun e => h e.symm
    simp [h, this]
/-- The order does not matter. -/
theorem sm_perm {l l' : List Int} (h : l.Perm l') : ∀ k, (sm l k).Perm (sm l' k) := by
  induction h with
  | nil => intro k; exact .refl _
  | cons x _ ih =>
    intro k
    cases k with
    | zero => exact .refl _
    | succ k => exact (ih (k + 1)).append ((ih k).map _)
  | swap x y l =>
    intro k
    match k with
    | 0 => exact .refl _
    | 1 =>
      show ((sm l 1 ++ (sm l 0).map (· + x)) ++ (sm (x :: l) 0).map (· + y)).Perm ((sm l 1 ++ (sm l 0).map (· + y)) ++ (sm (y :: l) 0).map (· + x))
      rw [sm_zero, sm_zero, sm_zero, List.append_assoc, List.append_assoc]
      exact (List.perm_append_comm).append_left _
    | k + 2 =>
      show ((sm l (k + 2) ++ (sm l (k + 1)).map (· + x)) ++ (sm l (k + 1) ++ (sm l k).map (· + x)).map (· + y)).Perm ((sm l (k + 2) ++ (sm l (k + 1)).map (· + y)) ++ (sm l (k + 1) ++ (sm l k).map (· + y)).map (· + x))
      simp only [List.map_append, List.map_map, List.append_assoc]
      refine List.Perm.append_left _ ?_
      have e : ((· + y) ∘ (· + x) : Int → Int) = ((· + x) ∘ (· + y)) := by funext z; simp only [Function.comp]; omega
      rw [e, ← List.append_assoc, ← List.append_assoc]
      exact (List.perm_append_comm).append_right _
  | trans _ _ i j => intro k; exact (i k).trans (j k)
def sumI : List Int → Int
  | [] => 0
  | a :: l => a + sumI l
theorem sumI_append (p q : List Int) : sumI (p ++ q) = sumI p + sumI q := by
  induction p with
  | nil => show sumI q = 0 + sumI q; omega
  | cons a p ih => show a + sumI (p ++ q) = a + sumI p + sumI q; omega
theorem sumI_perm {l l' : List Int} (h : l.Perm l') : sumI l = sumI l' := by
  induction h with
  | nil => rfl
  | cons x _ ih => show x + _ = x + _; omega
  | swap x y l => show y + (x + sumI l) = x + (y + sumI l); omega
  | trans _ _ i j => exact i.trans j
/-- The first k are some of them. -/
theorem sm_mem : ∀ (p q : List Int), sumI p ∈ sm (p ++ q) p.length
  | [], q => by rw [List.length_nil, sm_zero]; simp [sumI]
  | a :: p, q => by
    show a + sumI p ∈ sm (p ++ q) (p.length + 1) ++ (sm (p ++ q) p.length).map (· + a)
    exact List.mem_append.2 (.inr (List.mem_map.2 ⟨sumI p, sm_mem p q, by omega⟩))
/-- Whether a sum lies at least as far off. -/
def offI (mid n : Int) : Int := max (n - mid) (mid - n)
def farB (mid far : Int) (s : Int) : Bool := decide (far ≤ offI mid s)
/-- How many choices lie at least as far off as the first m; of how many. -/
def somK (R : List Int) (m : Nat) : Nat := (sm R m).countP (farB (m * (R.length + 1)) (offI (m * (R.length + 1)) (sumI (R.take m))))
def allK (R : List Int) (m : Nat) : Nat := (sm R m).length
def alkQ (R : List Int) (m : Nat) : Rat := ((somK R m : Int) : Rat) / ((allK R m : Int) : Rat)
theorem somK_pos {R : List Int} {m : Nat} (h : m ≤ R.length) : 0 < somK R m := by
  have hm := sm_mem (R.take m) (R.drop m)
  rw [List.take_append_drop, List.length_take, Nat.min_eq_left h] at hm
  refine List.countP_pos_iff.2 ⟨_, hm, ?_⟩
  exact decide_eq_true (Int.le_refl _)
theorem somK_le (R : List Int) (m : Nat) : somK R m ≤ allK R m := List.countP_le_length
end Go.Proofs.YtmnipggjjcmjkaaGreat
