/-
  Sums of k of a list of numbers, as often as they come; what the order of the list, and the rest of the list, make of them; the doubled ranks. No program is in sight here.
-/

set_option linter.unusedSimpArgs false
set_option linter.unusedVariables false
namespace Go.Proofs.YtmnipggjjcmjkaaGreat

/-- The sums of k of the numbers. -/
def sm : List Int → Nat → List Int
  | [], 0 => [0]
  | [], _ + 1 => []
  | _ :: _, 0 => [0]
  | r :: l, k + 1 => sm l (k + 1) ++ (sm l k).map (· + r)
theorem sm_zero (l : List Int) : sm l 0 = [0] := by cases l <;> rfl
theorem sm_cons (r : Int) (l : List Int) (k : Nat) : sm (r :: l) (k + 1) = sm l (k + 1) ++ (sm l k).map (· + r) := rfl
theorem sm_far : ∀ (l : List Int) (k : Nat), l.length < k → sm l k = []
  | [], k + 1, _ => rfl
  | r :: l, k + 1, h => by
    have h' : l.length + 1 < k + 1 := h
    rw [sm_cons, sm_far l (k + 1) (by omega), sm_far l k (by omega)]; rfl
def cnt (l : List Int) (k : Nat) (s : Int) : Nat := (sm l k).count s
theorem count_shift (l : List Int) (r s : Int) : (l.map (· + r)).count s = l.count (s - r) := by
  induction l with
  | nil => rfl
  | cons a l ih =>
    rw [List.map_cons, List.count_cons, List.count_cons, ih]
    congr 1
    by_cases h : a + r = s
    · have : a = s - r := by omega
      simp [this]
    · have : ¬ a = s - r := by omega
      simp [h, this]
theorem cnt_cons (r : Int) (l : List Int) (k : Nat) (s : Int) : cnt (r :: l) (k + 1) s = cnt l (k + 1) s + cnt l k (s - r) := by
  unfold cnt
  rw [sm_cons, List.count_append, count_shift]
theorem cnt_zero (l : List Int) (s : Int) : cnt l 0 s = if s = 0 then 1 else 0 := by
  unfold cnt
  rw [sm_zero, List.count_cons]
  by_cases h : s = 0
  · subst h; rfl
  · have : ¬ (0 : Int) = s := fun e => h e.symm
    simp [h, this]
theorem cnt_nil (k : Nat) (s : Int) : cnt [] (k + 1) s = 0 := rfl
/-- The order does not matter. -/
theorem sm_perm {l l' : List Int} (h : l.Perm l') : ∀ k, (sm l k).Perm (sm l' k) := by
  induction h with
  | nil => intro k; exact .refl _
  | cons x _ ih =>
    intro k
    cases k with
    | zero => exact .refl _
    | succ k => exact (ih (k + 1)).append ((ih k).map _)
  | swap x y l =>
    intro k
    match k with
    | 0 => exact .refl _
    | 1 =>
      show ((sm l 1 ++ (sm l 0).map (· + x)) ++ (sm (x :: l) 0).map (· + y)).Perm ((sm l 1 ++ (sm l 0).map (· + y)) ++ (sm (y :: l) 0).map (· + x))
      rw [sm_zero, sm_zero, sm_zero, List.append_assoc, List.append_assoc]
      exact (List.perm_append_comm).append_left _
    | k + 2 =>
      show ((sm l (k + 2) ++ (sm l (k + 1)).map (· + x)) ++ (sm l (k + 1) ++ (sm l k).map (· + x)).map (· + y)).Perm ((sm l (k + 2) ++ (sm l (k + 1)).map (· + y)) ++ (sm l (k + 1) ++ (sm l k).map (· + y)).map (· + x))
      simp only [List.map_append, List.map_map, List.append_assoc]
      refine List.Perm.append_left _ ?_
      have e : ((· + y) ∘ (· + x) : Int → Int) = ((· + x) ∘ (· + y)) := by funext z; simp only [Function.comp]; omega
      rw [e, ← List.append_assoc, ← List.append_assoc]
      exact (List.perm_append_comm).append_right _
  | trans _ _ i j => intro k; exact (i k).trans (j k)
def sumI : List Int → Int
  | [] => 0
  | a :: l => a + sumI l
theorem sumI_append (p q : List Int) : sumI (p ++ q) = sumI p + sumI q := by
  induction p with
  | nil => show sumI q = 0 + sumI q; omega
  | cons a p ih => show a + sumI (p ++ q) = a + sumI p + sumI q; omega
theorem sumI_perm {l l' : List Int} (h : l.Perm l') : sumI l = sumI l' := by
  induction h with
  | nil => rfl
  | cons x _ ih => show x + _ = x + _; omega
  | swap x y l => show y + (x + sumI l) = x + (y + sumI l); omega
  | trans _ _ i j => exact i.trans j
/-- The sums of the rest. -/
theorem sm_rest : ∀ (l : List Int) (k m : Nat), k + m = l.length → (sm l m).Perm ((sm l k).map (sumI l - ·))
  | [], 0, 0, _ => by show ([0] : List Int).Perm [0 - 0]; exact .refl _
  | [], 0, m + 1, h => by simp at h
  | [], k + 1, m, h => by simp at h
  | r :: l, 0, m, h => by
    have hm : m = l.length + 1 := by simpa using h
    subst hm
    have ih := sm_rest l 0 l.length (by omega)
    rw [sm_cons, sm_far l (l.length + 1) (by omega), sm_zero]
    rw [sm_zero] at ih
    have := ih.map (· + r)
    refine this.trans ?_
    show ([sumI l - 0 + r] : List Int).Perm [r + sumI l - 0]
    rw [show sumI l - 0 + r = r + sumI l - 0 by omega]
  | r :: l, k + 1, 0, h => by
    have hk : k = l.length := by simpa using h
    subst hk
    have ih := sm_rest l l.length 0 (by omega)
    rw [sm_cons, sm_far l (l.length + 1) (by omega), sm_zero]
    rw [sm_zero] at ih
    refine ih.trans ?_
    rw [List.nil_append, List.map_map]
    refine List.Perm.of_eq (List.map_congr_left fun a _ => ?_)
    show sumI l - a = r + sumI l - (a + r)
    omega
  | r :: l, k + 1, m + 1, h => by
    have h' : k + m + 1 = l.length := by simp at h; omega
    have i1 := sm_rest l k (m + 1) (by omega)
    have i2 := sm_rest l (k + 1) m (by omega)
    rw [sm_cons, sm_cons, List.map_append, List.map_map]
    refine ((i1.append (i2.map (· + r))).trans List.perm_append_comm).trans ?_
    rw [List.map_map]
    refine List.Perm.append (List.Perm.of_eq (List.map_congr_left fun a _ => ?_)) (List.Perm.of_eq (List.map_congr_left fun a _ => ?_))
    · show sumI l - a + r = r + sumI l - a; omega
    · show sumI l - a = r + sumI l - (a + r); omega
/-- The first k are some of them. -/
theorem sm_mem : ∀ (p q : List Int), sumI p ∈ sm (p ++ q) p.length
  | [], q => by rw [List.length_nil, sm_zero]; simp [sumI]
  | a :: p, q => by
    show a + sumI p ∈ sm (p ++ q) (p.length + 1) ++ (sm (p ++ q) p.length).map (· + a)
    exact List.mem_append.2 (.inr (List.mem_map.2 ⟨sumI p, sm_mem p q, by omega⟩))
/-- A table by sums: no sum twice, each with how often it comes: what it adds up to. -/
def tabS (p : Int → Bool) : List (Int × Nat) → Nat
  | [] => 0
  | e :: E => (if p e.1 then e.2 else 0) + tabS p E
def tabL (E : List (Int × Nat)) (s : Int) : Nat := match E with
  | [] => 0
  | e :: E => if e.1 = s then e.2 else tabL E s
theorem tabL_none : ∀ {E : List (Int × Nat)} {s : Int}, s ∉ E.map (·.1) → tabL E s = 0
  | [], _, _ => rfl
  | e :: E, s, h => by
    rw [List.map_cons, List.mem_cons, not_or] at h
    show (if e.1 = s then e.2 else tabL E s) = 0
    rw [if_neg (fun x => h.1 x.symm), tabL_none h.2]
theorem countP_split (p : Int → Bool) (a : Int) : ∀ L : List Int, L.countP p = (if p a then L.count a else 0) + (L.filter (· ≠ a)).countP p
  | [] => by simp
  | x :: L => by
    have ih := countP_split p a L
    rw [List.countP_cons, List.count_cons, List.filter_cons]
    by_cases h : x = a
    · subst h
      rw [if_neg (show ¬ decide (x ≠ x) = true by simp)]
      by_cases hp : p x = true
      · simp [hp] at ih ⊢; omega
      · simp [hp] at ih ⊢; omega
    · rw [if_pos (show decide (x ≠ a) = true by simpa using h), List.countP_cons]
      have hb : (x == a) = false := by simpa using h
      rw [hb]
      rw [if_neg Bool.false_ne_true]
      by_cases hp : p a = true
      · rw [if_pos hp] at ih ⊢; omega
      · rw [if_neg hp] at ih ⊢; omega
theorem count_filter_ne {a s : Int} (h : ¬ s = a) (L : List Int) : (L.filter (· ≠ a)).count s = L.count s := by
  induction L with
  | nil => rfl
  | cons x L ih =>
    rw [List.filter_cons, List.count_cons]
    by_cases e : x = a
    · subst e
      have : (x == s) = false := by simpa using fun e => h e.symm
      rw [if_neg (show ¬ decide (x ≠ x) = true by simp), ih, this]; rfl
    · rw [if_pos (show decide (x ≠ a) = true by simpa using e), List.count_cons, ih]
theorem tab_sum (p : Int → Bool) : ∀ (E : List (Int × Nat)) (L : List Int), (E.map (·.1)).Nodup → (∀ s, tabL E s = L.count s) → tabS p E = L.countP p
  | [], L, _, h => by
    have : L = [] := by
      cases L with
      | nil => rfl
      | cons x L => have := h x; rw [List.count_cons] at this; simp [tabL] at this
    subst this; rfl
  | e :: E, L, hn, h => by
    rw [List.map_cons, List.nodup_cons] at hn
    have ih := tab_sum p E (L.filter (· ≠ e.1)) hn.2 fun s => by
      by_cases hs : s = e.1
      · subst hs
        rw [tabL_none hn.1]
        refine (List.count_eq_zero.2 fun hm => ?_).symm
        have := (List.mem_filter.1 hm).2
        simp at this
      · rw [count_filter_ne hs, ← h s]
        show _ = (if e.1 = s then e.2 else tabL E s)
        rw [if_neg (fun x => hs x.symm)]
    rw [countP_split p e.1 L, ← ih, ← h e.1]
    show (if p e.1 then e.2 else 0) + tabS p E = (if p e.1 then (if e.1 = e.1 then e.2 else tabL E e.1) else 0) + tabS p E
    rw [if_pos rfl]
/-- Whether a sum lies at least as far off. -/
def offI (mid n : Int) : Int := max (n - mid) (mid - n)
def farB (mid far : Int) (s : Int) : Bool := decide (far ≤ offI mid s)
/-- How many choices lie at least as far off as the first m; of how many. -/
def somK (R : List Int) (m : Nat) : Nat := (sm R m).countP (farB (m * (R.length + 1)) (offI (m * (R.length + 1)) (sumI (R.take m))))
def allK (R : List Int) (m : Nat) : Nat := (sm R m).length
def alkQ (R : List Int) (m : Nat) : Rat := ((somK R m : Int) : Rat) / ((allK R m : Int) : Rat)
theorem somK_pos {R : List Int} {m : Nat} (h : m ≤ R.length) : 0 < somK R m := by
  have hm := sm_mem (R.take m) (R.drop m)
  rw [List.take_append_drop, List.length_take, Nat.min_eq_left h] at hm
  refine List.countP_pos_iff.2 ⟨_, hm, ?_⟩
  exact decide_eq_true (Int.le_refl _)
theorem somK_le (R : List Int) (m : Nat) : somK R m ≤ allK R m := List.countP_le_length
/-- Two batches in the other order. -/
theorem alk_swap {p q : List Int} (hs : sumI (p ++ q) = ((p ++ q).length : Int) * ((p ++ q).length + 1)) : somK (q ++ p) q.length = somK (p ++ q) p.length ∧ allK (q ++ p) q.length = allK (p ++ q) p.length := by
  have e1 : (sm (q ++ p) q.length).Perm ((sm (p ++ q) p.length).map (sumI (p ++ q) - ·)) :=
    (sm_perm List.perm_append_comm q.length).trans (sm_rest (p ++ q) p.length q.length (by simp))
  refine ⟨?_, by unfold allK; rw [e1.length_eq, List.length_map]⟩
  unfold somK
  rw [e1.countP_eq, List.countP_map]
  refine List.countP_congr fun s _ => ?_
  have hl : ((p ++ q).length : Int) = p.length + q.length := by simp
  have hl2 : ((q ++ p).length : Int) = p.length + q.length := by simp; omega
  have ha : sumI (p ++ q) = sumI p + sumI q := sumI_append _ _
  rw [List.take_left' rfl, List.take_left' rfl]
  unfold farB
  simp only [Function.comp, decide_eq_true_eq]
  rw [hl, hl2]
  rw [hl] at hs
  have hmid : (q.length : Int) * (p.length + q.length + 1) = sumI (p ++ q) - (p.length : Int) * (p.length + q.length + 1) := by
    rw [hs]
    rw [show ((p.length : Int) + q.length) * (p.length + q.length + 1) = (p.length : Int) * (p.length + q.length + 1) + (q.length : Int) * (p.length + q.length + 1) from Int.add_mul _ _ _]
    omega
  rw [hmid]
  unfold offI
  generalize (p.length : Int) * (p.length + q.length + 1) = M at *
  constructor <;> intro h <;> omega
/-- Within the batches the order does not matter. -/
theorem alk_perm {p q p' q' : List Int} (hp : p.Perm p') (hq : q.Perm q') : somK (p ++ q) p.length = somK (p' ++ q') p'.length ∧ allK (p ++ q) p.length = allK (p' ++ q') p'.length := by
  have e := sm_perm (hp.append hq) p.length
  have l1 := hp.length_eq
  have l2 := hq.length_eq
  refine ⟨?_, by unfold allK; rw [e.length_eq, l1]⟩
  unfold somK
  rw [List.take_left' rfl, List.take_left' rfl, sumI_perm hp, e.countP_eq, List.length_append, List.length_append, l1, l2]
/-- A batch and itself. -/
theorem alk_self {p : List Int} (hs : sumI (p ++ p) = ((p ++ p).length : Int) * ((p ++ p).length + 1)) : somK (p ++ p) p.length = allK (p ++ p) p.length := by
  unfold somK allK
  refine List.countP_eq_length.2 fun s _ => ?_
  rw [List.take_left' rfl]
  have ha : sumI (p ++ p) = sumI p + sumI p := sumI_append _ _
  have hl : ((p ++ p).length : Int) = p.length + p.length := by simp
  rw [hl] at hs ⊢
  have h2 : ((p.length : Int) + p.length) * (p.length + p.length + 1) = (p.length : Int) * (p.length + p.length + 1) + (p.length : Int) * (p.length + p.length + 1) := Int.add_mul _ _ _
  unfold farB offI
  generalize (p.length : Int) * (p.length + p.length + 1) = M at *
  exact decide_eq_true (by omega)
end Go.Proofs.YtmnipggjjcmjkaaGreat
