/-
  How long intervals are together does not depend on the order among those that begin at one place: plain.
-/
import Derived.Test.YtbnomdlojmgigaaGreatPkA21Q
import Derived.Calls
import Derived.Laws.World
set_option linter.unusedSimpArgs false
set_option linter.unusedVariables false
set_option maxHeartbeats 2000000
namespace Go.Proofs.YtbnomdlojmgigaaGreat
abbrev Spn := Rat × Rat
theorem lnF_swap (s x y : Spn) (h : x.1 = y.1) : lnF (lnF s x) y = lnF (lnF s y) x := by
  obtain ⟨a, e⟩ := s; obtain ⟨x1, x2⟩ := x; obtain ⟨y1, y2⟩ := y
  simp only at h
  subst h
  unfold lnF
  simp only
  by_cases c1 : e < x1
  · simp only [if_pos c1]
    by_cases c2 : x1 < x2 <;> by_cases c3 : x1 < y2
    · simp only [if_pos c2, if_pos c3]
      rw [if_neg (show ¬ x2 < x1 by grind), if_neg (show ¬ y2 < x1 by grind)]
      by_cases c4 : x2 < y2
      · rw [if_pos c4, if_neg (show ¬ y2 < x2 by grind)]; congr 1; grind
      · rw [if_neg c4]
        by_cases c5 : y2 < x2
        · rw [if_pos c5]; congr 1; grind
        · rw [if_neg c5]; congr 1 <;> grind
    · simp only [if_pos c2, if_neg c3]
      rw [if_neg (show ¬ x2 < x1 by grind), if_neg (show ¬ x2 < y2 by grind), if_neg (show ¬ x1 < x1 by grind), if_pos c2]
    · simp only [if_neg c2, if_pos c3]
      rw [if_neg (show ¬ x1 < x1 by grind), if_pos c3, if_neg (show ¬ y2 < x1 by grind), if_neg (show ¬ y2 < x2 by grind)]
    · simp only [if_neg c2, if_neg c3]
      rw [if_neg (show ¬ x1 < x1 by grind), if_neg c3, if_neg c2]
  · simp only [if_neg c1]
    by_cases c2 : e < x2 <;> by_cases c3 : e < y2
    · simp only [if_pos c2, if_pos c3]
      rw [if_neg (show ¬ x2 < x1 by grind), if_neg (show ¬ y2 < x1 by grind)]
      by_cases c4 : x2 < y2
      · rw [if_pos c4, if_neg (show ¬ y2 < x2 by grind)]; congr 1; grind
      · rw [if_neg c4]
        by_cases c5 : y2 < x2
        · rw [if_pos c5]; congr 1; grind
        · rw [if_neg c5]; congr 1 <;> grind
    · simp only [if_pos c2, if_neg c3]
      rw [if_neg (show ¬ x2 < x1 by grind), if_neg (show ¬ x2 < y2 by grind), if_neg c1, if_pos c2]
    · simp only [if_neg c2, if_pos c3]
      rw [if_neg c1, if_pos c3, if_neg (show ¬ y2 < x1 by grind), if_neg (show ¬ y2 < x2 by grind)]
    · simp only [if_neg c2, if_neg c3]
      rw [if_neg c1, if_neg c3, if_neg c2]
def lxB (x y : Spn) : Bool := decide (x.1 < y.1) || (decide (x.1 = y.1) && decide (x.2 ≤ y.2))
def insX (x : Spn) : List Spn → List Spn
  | [] => [x]
  | y :: r => if lxB x y = true then x :: y :: r else y :: insX x r
theorem lx_iff (x y : Spn) : lxB x y = true ↔ x.1 < y.1 ∨ x.1 = y.1 ∧ x.2 ≤ y.2 := by unfold lxB; simp
theorem insX_mem {x z : Spn} : ∀ {l : List Spn}, z ∈ insX x l → z = x ∨ z ∈ l
  | [], h => by simp [insX] at h; exact .inl h
  | y :: r, h => by
    unfold insX at h
    split at h
    · rcases List.mem_cons.1 h with h | h
      · exact .inl h
      · exact .inr h
    · rcases List.mem_cons.1 h with h | h
      · exact .inr (h ▸ List.mem_cons_self)
      · rcases insX_mem h with h | h
        · exact .inl h
        · exact .inr (List.mem_cons_of_mem _ h)
theorem insX_fold (x : Spn) : ∀ (l : List Spn) (s : Spn), (∀ y ∈ l, x.1 ≤ y.1) → (insX x l).foldl lnF s = l.foldl lnF (lnF s x)
  | [], s, _ => rfl
  | y :: r, s, h => by
    unfold insX
    split
    · rfl
    · rename_i hc
      have hxy := h y List.mem_cons_self
      have he : x.1 = y.1 := by
        refine Decidable.byContradiction fun hne => hc ((lx_iff x y).2 (.inl ?_))
        grind
      show (insX x r).foldl lnF (lnF s y) = r.foldl lnF (lnF (lnF s x) y)
      rw [insX_fold x r (lnF s y) (fun z hz => h z (List.mem_cons_of_mem _ hz)), lnF_swap s x y he]
theorem insX_comm (x y : Spn) : ∀ l : List Spn, insX x (insX y l) = insX y (insX x l)
  | [] => by
    show (if lxB x y = true then [x, y] else [y, x]) = (if lxB y x = true then [y, x] else [x, y])
    by_cases h1 : lxB x y = true <;> by_cases h2 : lxB y x = true
    · have : x = y := by
        rw [lx_iff] at h1 h2
        exact Prod.ext (by grind) (by grind)
      subst this; rfl
    · rw [if_pos h1, if_neg h2]
    · rw [if_neg h1, if_pos h2]
    · rw [lx_iff] at h1 h2
      exact absurd h1 (by grind)
  | z :: r => by
    have ih := insX_comm x y r
    show insX x (if lxB y z = true then y :: z :: r else z :: insX y r) = insX y (if lxB x z = true then x :: z :: r else z :: insX x r)
    by_cases h1 : lxB y z = true <;> by_cases h2 : lxB x z = true
    · rw [if_pos h1, if_pos h2]
      show (if lxB x y = true then x :: y :: z :: r else y :: (if lxB x z = true then x :: z :: r else z :: insX x r)) = (if lxB y x = true then y :: x :: z :: r else x :: (if lxB y z = true then y :: z :: r else z :: insX y r))
      rw [if_pos h1, if_pos h2]
      by_cases h3 : lxB x y = true <;> by_cases h4 : lxB y x = true
      · have : x = y := by
          rw [lx_iff] at h3 h4
          exact Prod.ext (by grind) (by grind)
        subst this; rfl
      · rw [if_pos h3, if_neg h4]
      · rw [if_neg h3, if_pos h4]
      · rw [lx_iff] at h3 h4
        exact absurd h3 (by grind)
    · rw [if_pos h1, if_neg h2]
      have h3 : ¬ lxB x y = true := fun h => h2 (by rw [lx_iff] at h h1 ⊢; grind)
      show (if lxB x y = true then x :: y :: z :: r else y :: (if lxB x z = true then x :: z :: r else z :: insX x r)) = (if lxB y z = true then y :: z :: insX x r else z :: insX y (insX x r))
      rw [if_neg h3, if_neg h2, if_pos h1]
    · rw [if_neg h1, if_pos h2]
      have h3 : ¬ lxB y x = true := fun h => h1 (by rw [lx_iff] at h h2 ⊢; grind)
      show (if lxB x z = true then x :: z :: insX y r else z :: insX x (insX y r)) = (if lxB y x = true then y :: x :: z :: r else x :: (if lxB y z = true then y :: z :: r else z :: insX y r))
      rw [if_neg h3, if_neg h1, if_pos h2]
    · rw [if_neg h1, if_neg h2]
      show (if lxB x z = true then x :: z :: insX y r else z :: insX x (insX y r)) = (if lxB y z = true then y :: z :: insX x r else z :: insX y (insX x r))
      rw [if_neg h2, if_neg h1, ih]
def canX (l : List Spn) : List Spn := l.foldr insX []
theorem canX_mem {z : Spn} : ∀ {l : List Spn}, z ∈ canX l → z ∈ l
  | [], h => by cases h
  | x :: r, h => by
    rcases insX_mem (show z ∈ insX x (canX r) from h) with h | h
    · exact h ▸ List.mem_cons_self
    · exact List.mem_cons_of_mem _ (canX_mem h)
theorem canX_fold : ∀ (l : List Spn) (s : Spn), l.Pairwise (fun a b => a.1 ≤ b.1) → (canX l).foldl lnF s = l.foldl lnF s
  | [], _, _ => rfl
  | x :: r, s, h => by
    obtain ⟨h1, h2⟩ := List.pairwise_cons.1 h
    show (insX x (canX r)).foldl lnF s = r.foldl lnF (lnF s x)
    rw [insX_fold x (canX r) s (fun y hy => h1 y (canX_mem hy)), canX_fold r _ h2]
theorem canX_perm {l l' : List Spn} (h : l.Perm l') : canX l = canX l' := by
  induction h with
  | nil => rfl
  | cons x _ ih => show insX x _ = insX x _; unfold canX at ih; rw [ih]
  | swap x y l => exact insX_comm y x (canX l)
  | trans _ _ h1 h2 => exact h1.trans h2
theorem lnQ_fold {x : Spn} {r : List Spn} {e : Rat} (h : e < x.1) : lnQ (x :: r) = ((x :: r).foldl lnF (0, e)).1 := by
  show (r.foldl lnF _).1 = (r.foldl lnF (lnF (0, e) x)).1
  congr 2
  unfold lnF
  simp only [if_pos h]
  by_cases c : x.1 < x.2
  · rw [if_pos c, if_pos c, Rat.zero_add]
  · rw [if_neg c, if_neg c]
theorem lnQ_perm {l l' : List Spn} (hp : l.Perm l') (hs : l.Pairwise (fun a b => a.1 ≤ b.1)) (hs' : l'.Pairwise (fun a b => a.1 ≤ b.1)) : lnQ l = lnQ l' := by
  match l, l', hp, hs, hs' with
  | [], l', hp, _, _ => rw [List.Perm.eq_nil (hp.symm)]
  | x :: r, [], hp, _, _ => exact absurd hp.length_eq (by simp)
  | x :: r, y :: r', hp, hs, hs' =>
    obtain ⟨h1, h2⟩ := List.pairwise_cons.1 hs
    obtain ⟨h3, h4⟩ := List.pairwise_cons.1 hs'
    have e1 : x.1 ≤ y.1 := by
      rcases List.mem_cons.1 (hp.mem_iff.2 List.mem_cons_self : y ∈ x :: r) with h | h
      · rw [h]; exact Rat.le_refl
      · exact h1 _ h
    have e2 : y.1 ≤ x.1 := by
      rcases List.mem_cons.1 (hp.mem_iff.1 List.mem_cons_self : x ∈ y :: r') with h | h
      · rw [h]; exact Rat.le_refl
      · exact h3 _ h
    rw [lnQ_fold (e := x.1 - 1) (by grind), lnQ_fold (e := x.1 - 1) (by grind), ← canX_fold _ _ hs, ← canX_fold _ _ hs', canX_perm hp]
end Go.Proofs.YtbnomdlojmgigaaGreat
namespace Go.Proofs.YtbnomdlojmgigaaGreat
abbrev spnAt (l : List Spn) (i : Nat) : Spn := l.getD i (0, 0)
def lnS (l : List Spn) : Nat → Rat × Rat
  | 0 => (0, 0)
  | k + 1 =>
    let s := lnS l k
    let e := if k = 0 ∨ s.2 < (spnAt l k).1 then (spnAt l k).1 else s.2
    if e < (spnAt l k).2 then (s.1 + ((spnAt l k).2 - e), (spnAt l k).2) else (s.1, e)
theorem lnS_fold (x : Spn) (r : List Spn) : ∀ k, k ≤ r.length → lnS (x :: r) (k + 1) = (r.take k).foldl lnF (if x.1 < x.2 then (x.2 - x.1, x.2) else (0, x.1))
  | 0, _ => by
    show (let s : Rat × Rat := (0, 0); let e := if 0 = 0 ∨ s.2 < x.1 then x.1 else s.2; if e < x.2 then (s.1 + (x.2 - e), x.2) else (s.1, e)) = _
    simp only [true_or, if_true, List.take_zero, List.foldl_nil]
    by_cases c : x.1 < x.2
    · rw [if_pos c, if_pos c, Rat.zero_add]
    · rw [if_neg c, if_neg c]
  | k + 1, h => by
    have ih := lnS_fold x r k (by omega)
    have hx : r[k]? = some (r[k]'(by omega)) := List.getElem?_eq_getElem _
    have e1 : spnAt (x :: r) (k + 1) = r[k]'(by omega) := by
      show (x :: r).getD (k + 1) (0, 0) = _
      rw [List.getD_eq_getElem?_getD, List.getElem?_cons_succ, hx]; rfl
    have e2 : r.take (k + 1) = r.take k ++ [r[k]'(by omega)] := by rw [List.take_add_one, hx]; rfl
    rw [e2, List.foldl_append, ← ih]
    show (let s := lnS (x :: r) (k + 1); let e := if k + 1 = 0 ∨ s.2 < (spnAt (x :: r) (k + 1)).1 then (spnAt (x :: r) (k + 1)).1 else s.2; if e < (spnAt (x :: r) (k + 1)).2 then (s.1 + ((spnAt (x :: r) (k + 1)).2 - e), (spnAt (x :: r) (k + 1)).2) else (s.1, e)) = lnF (lnS (x :: r) (k + 1)) (r[k]'(by omega))
    rw [e1]
    unfold lnF
    simp only [Nat.succ_ne_zero, false_or]
theorem lnS_all (l : List Spn) : (lnS l l.length).1 = lnQ l := by
  cases l with
  | nil => rfl
  | cons x r =>
    show (lnS (x :: r) (r.length + 1)).1 = _
    rw [lnS_fold x r r.length (Nat.le_refl _), List.take_length]
    rfl
def prK (ys : List Rat) : Nat → List Spn
  | 0 => []
  | j + 1 => prK ys j ++ [(nthQ ys (2 * j), nthQ ys (2 * j + 1))]
theorem prK_front (a b : Rat) (r : List Rat) : ∀ j, prK (a :: b :: r) (j + 1) = (a, b) :: prK r j
  | 0 => rfl
  | j + 1 => by
    show prK (a :: b :: r) (j + 1) ++ [(nthQ (a :: b :: r) (2 * (j + 1)), nthQ (a :: b :: r) (2 * (j + 1) + 1))] = (a, b) :: (prK r j ++ [(nthQ r (2 * j), nthQ r (2 * j + 1))])
    rw [prK_front a b r j]
    rfl
theorem prK_all : ∀ ys : List Rat, prK ys (ys.length / 2) = prQ ys
  | [] => rfl
  | [a] => by show prK [a] (1 / 2) = []; rw [show 1 / 2 = 0 from rfl]; rfl
  | a :: b :: r => by
    have e : (a :: b :: r).length / 2 = r.length / 2 + 1 := by show (r.length + 1 + 1) / 2 = _; omega
    rw [e, prK_front, prK_all r]; rfl
def sumK (ps : List (List Edg)) (xs : List Rat) : Nat → Rat
  | 0 => 0
  | k + 1 => sumK ps xs k + slabQ ps (nthQ xs k) (nthQ xs (k + 1))
theorem sumK_front (ps : List (List Edg)) (a : Rat) (r : List Rat) : ∀ k, sumK ps (a :: r) (k + 1) = slabQ ps a (nthQ r 0) + sumK ps r k
  | 0 => by show 0 + slabQ ps a (nthQ r 0) = slabQ ps a (nthQ r 0) + 0; rw [Rat.zero_add, Rat.add_zero]
  | k + 1 => by
    show sumK ps (a :: r) (k + 1) + slabQ ps (nthQ (a :: r) (k + 1)) (nthQ (a :: r) (k + 1 + 1)) = _ + (sumK ps r k + slabQ ps (nthQ r k) (nthQ r (k + 1)))
    rw [sumK_front ps a r k, Rat.add_assoc]
    rfl
theorem sumK_all (ps : List (List Edg)) : ∀ xs : List Rat, sumK ps xs (xs.length - 1) = sumQ ps xs
  | [] => rfl
  | [_] => rfl
  | a :: b :: r => by
    show sumK ps (a :: b :: r) (r.length + 1) = slabQ ps a b + sumQ ps (b :: r)
    rw [sumK_front, ← sumK_all ps (b :: r)]
    rfl
end Go.Proofs.YtbnomdlojmgigaaGreat
namespace Go.Proofs.YtbnomdlojmgigaaGreat
def rW {α : Type} : Result α → World
  | .ok _ w => w
  | .halt _ w => w
theorem viewStore_drawn {p : Program} {w : World} {at_ : Addr} {u : TypeId} {k : Addr} {v : Value} {atomic : Bool} {r : World × List Addr} (h : w.viewStore p at_ u k v atomic = .ok r) : r.1.drawn = w.drawn := by
  unfold World.viewStore at h
  simp only [bind, Except.bind, pure, Except.pure] at h
  repeat' (first | (cases h; done) | (cases h; rfl) | split at h)
theorem farStore_drawn {p : Program} {w : World} {a : Addr} {v : Value} {atomic : Bool} {r : World × List Addr} (h : w.farStore p a v atomic = .ok r) : r.1.drawn = w.drawn := by
  unfold World.farStore at h
  split at h
  · split at h
    · rename_i h2
      cases h
      exact viewStore_drawn h2
    · cases h
  · cases h
theorem ask_drawn {α : Type} (a : Ask α) : ∀ w : World, w.drawn ≤ (w.ask a).2.drawn := by
  induction a with
  | done a => intro w; exact Nat.le_refl _
  | ask what range k ih =>
    intro w
    unfold World.ask
    simp only
    split
    · exact ih _ _
    · refine Nat.le_trans ?_ (ih _ _); exact Nat.le_succ _
theorem sys_drawn (w : World) (c : Sys) : w.drawn ≤ (w.sys c).2.drawn := by
  have h := ask_drawn (Kernel.perform c w.os) w
  unfold World.sys
  split
  · exact Nat.le_refl _
  · rename_i e; rw [e] at h; exact h
theorem freeze_drawn (w : World) (a : Addr) (n : Nat) : (w.freeze a n).drawn = w.drawn := by
  unfold World.freeze; split <;> rfl
theorem run_drawn {α : Type} (P : Program) (s : Sem α) : ∀ w, w.drawn ≤ (rW (s.run P w)).drawn := by
  induction s with
  | pure a => intro w; exact Nat.le_refl _
  | load m a k ih =>
    intro w; unfold Sem.run
    split
    · exact ih _ w
    · split
      · exact ih _ w
      · exact Nat.le_refl _
  | store m a v k ih =>
    intro w
    cases v <;> simp only [Sem.run] <;> first
      | exact Nat.le_refl _
      | (split
         · split
           · exact Nat.le_refl _
           · refine Nat.le_trans ?_ (ih _); exact Nat.le_refl _
         · split
           · rename_i h
             have := farStore_drawn h
             refine Nat.le_trans ?_ (ih _); exact Nat.le_of_eq this.symm
           · exact Nat.le_refl _)
  | new o k ih => intro w; unfold Sem.run; refine Nat.le_trans ?_ (ih _ _); exact Nat.le_refl _
  | shape r k ih => intro w; unfold Sem.run; refine Nat.le_trans ?_ (ih _ _); exact Nat.le_refl _
  | freeze a n k ih => intro w; unfold Sem.run; have := ih (w.freeze a n); rwa [freeze_drawn] at this
  | frozen a k ih => intro w; unfold Sem.run; refine Nat.le_trans ?_ (ih _ _); exact Nat.le_refl _
  | getObj r k ih =>
    intro w; unfold Sem.run
    split
    · exact Nat.le_refl _
    · refine Nat.le_trans ?_ (ih _ _); exact Nat.le_refl _
    · exact Nat.le_refl _
  | setObj r o k ih =>
    intro w; unfold Sem.run
    split
    · exact Nat.le_refl _
    · refine Nat.le_trans ?_ (ih _); exact Nat.le_refl _
    · exact Nat.le_refl _
  | choose q k ih =>
    intro w; unfold Sem.run
    split
    · exact ih _ _
    · refine Nat.le_trans ?_ (ih _ _); exact Nat.le_succ _
  | sys c k ih => intro w; unfold Sem.run; exact Nat.le_trans (sys_drawn w c) (ih (w.sys c).1 (w.sys c).2)
  | program k ih => intro w; unfold Sem.run; refine Nat.le_trans ?_ (ih _ _); exact Nat.le_refl _
  | mark m k ih => intro w; unfold Sem.run; exact ih _
  | halt h => intro w; exact Nat.le_refl _
theorem runT_drawn {α : Type} (P : Program) (s : Sem α) : ∀ w es, w.drawn ≤ (rW (s.runT P w es).1).drawn := by
  induction s with
  | pure a => intro w es; exact Nat.le_refl _
  | load m a k ih =>
    intro w es; unfold Sem.runT
    split
    · exact ih _ w _
    · split
      · exact ih _ w _
      · exact Nat.le_refl _
  | store m a v k ih =>
    intro w es
    cases v <;> simp only [Sem.runT] <;> first
      | exact Nat.le_refl _
      | (split
         · split
           · exact Nat.le_refl _
           · refine Nat.le_trans ?_ (ih _ _); exact Nat.le_refl _
         · split
           · rename_i h
             have := farStore_drawn h
             refine Nat.le_trans ?_ (ih _ _); exact Nat.le_of_eq this.symm
           · exact Nat.le_refl _)
  | new o k ih => intro w es; unfold Sem.runT; refine Nat.le_trans ?_ (ih _ _ _); exact Nat.le_refl _
  | shape r k ih => intro w es; unfold Sem.runT; refine Nat.le_trans ?_ (ih _ _ _); exact Nat.le_refl _
  | freeze a n k ih => intro w es; unfold Sem.runT; have := ih (w.freeze a n) es; rwa [freeze_drawn] at this
  | frozen a k ih => intro w es; unfold Sem.runT; refine Nat.le_trans ?_ (ih _ _ _); exact Nat.le_refl _
  | getObj r k ih =>
    intro w es; unfold Sem.runT
    split
    · exact Nat.le_refl _
    · exact ih _ _ _
    · exact Nat.le_refl _
  | setObj r o k ih =>
    intro w es; unfold Sem.runT
    split
    · exact Nat.le_refl _
    · refine Nat.le_trans ?_ (ih _ _); exact Nat.le_refl _
    · exact Nat.le_refl _
  | choose q k ih =>
    intro w es; unfold Sem.runT
    split
    · exact ih _ _ _
    · refine Nat.le_trans ?_ (ih _ _ _); exact Nat.le_succ _
  | sys c k ih => intro w es; unfold Sem.runT; exact Nat.le_trans (sys_drawn w c) (ih (w.sys c).1 (w.sys c).2 _)
  | program k ih => intro w es; unfold Sem.runT; refine Nat.le_trans ?_ (ih _ _ _); exact Nat.le_refl _
  | mark m k ih => intro w es; unfold Sem.runT; exact ih _ _
  | halt h => intro w es; exact Nat.le_refl _
theorem run_ok {α : Type} {P : Program} {s : Sem α} {w w' : World} {a : α} (h : s.run P w = .ok a w') : w.drawn ≤ w'.drawn := by have := run_drawn P s w; rwa [h] at this
theorem run_halt {α : Type} {P : Program} {s : Sem α} {w w' : World} {a : Halt} (h : s.run P w = .halt a w') : w.drawn ≤ w'.drawn := by have := run_drawn P s w; rwa [h] at this
theorem runT_ok {α : Type} {P : Program} {s : Sem α} {w w' : World} {es es' : Array Event} {a : α} (h : s.runT P w es = (.ok a w', es')) : w.drawn ≤ w'.drawn := by have := runT_drawn P s w es; rwa [h] at this
theorem runT_halt {α : Type} {P : Program} {s : Sem α} {w w' : World} {es es' : Array Event} {a : Halt} (h : s.runT P w es = (.halt a w', es')) : w.drawn ≤ w'.drawn := by have := runT_drawn P s w es; rwa [h] at this
def gW : GStep → World
  | .go _ w _ => w
  | .comm _ _ _ _ w _ => w
  | .spawn _ _ w _ => w
  | .count _ w _ => w
  | .timer _ _ w _ => w
  | .alone _ _ w _ => w
  | .newcoro _ _ _ w _ => w
  | .coroswitch _ _ _ w _ => w
  | .collect _ w _ => w
  | .watch _ w _ => w
  | .ended _ w _ => w
theorem after_world (es : Array Event) (s : GStep) : gW (GStep.after es s) = gW s := by cases s <;> rfl
def Up (w : World) (s : GStep) : Prop := w.drawn ≤ (gW s).drawn
theorem Up.after {w : World} {es : Array Event} {s : GStep} (h : Up w s) : Up w (GStep.after es s) := by unfold Up; rw [after_world]; exact h
theorem Up.of {w w' : World} {s : GStep} (h : w.drawn ≤ w'.drawn) (h' : Up w' s) : Up w s := Nat.le_trans h h'
theorem endWith_up (w : World) (fd : Nat) (text : ByteArray) (o : Outcome) : Up w (endWith w fd text o) := by
  unfold endWith
  have hs := sys_drawn w (.write fd text)
  simp only
  split
  · rename_i h
    rw [h] at hs
    split <;> exact hs
  · rename_i h
    rw [h] at hs; exact hs
  · rename_i h
    rw [h] at hs; exact hs
theorem endThrow_up (fr : Frame) (m : String) (w : World) : Up w (endThrow fr m w) := Nat.le_refl _
theorem endPrinting_up (p : Program) (fr : Frame) (v : Value) (w : World) : Up w (endPrinting p fr v w) := by
  unfold endPrinting
  simp only
  split <;> exact Nat.le_refl _
theorem endFatal_up (p : Program) (fr : Frame) (callers : List Frame) (dying : Option Dying) (m : String) (w : World) : Up w (endFatal p fr callers dying m w) := by
  unfold endFatal
  simp only
  split
  · rename_i h; exact run_ok h
  · rename_i h; exact run_halt h
  · rename_i h; exact run_halt h
theorem writeOn_up (p : Program) (fr : Frame) (d : Dying) (f : Fatal) (w : World) : Up w (writeOn p fr d f w) := by
  unfold writeOn
  simp only
  split
  · exact Nat.le_refl _
  · split
    · rename_i h; exact runT_ok h
    · rename_i h; exact runT_halt h
    · rename_i h; exact runT_halt h
    · rename_i h; exact runT_halt h
theorem die_up (p : Program) (fr : Frame) (d : Dying) (w : World) : Up w (die p fr d w) := by
  unfold die
  split
  · exact writeOn_up _ _ _ _ _
  · split
    · split
      · exact Nat.le_refl _
      · exact endWith_up _ _ _ _
    · simp only
      split
      · exact Nat.le_refl _
      · split
        · rename_i h; exact run_ok h
        · rename_i h; exact run_halt h
      · refine Up.after ?_
        split
        all_goals (rename_i h; first | (have h' := runT_ok (Prod.ext h rfl : _ = (_, _)); exact h') | (have h' := runT_halt (Prod.ext h rfl : _ = (_, _)); first | exact h' | exact Up.of h' (endPrinting_up _ _ _ _)) | exact Nat.le_refl _)
      · exact Nat.le_refl _
theorem runF_ok {α : Type} {P : Program} {s : Sem α} {w w' : World} {es : Array Event} {a : α} (h : (s.runT P w es).1 = .ok a w') : w.drawn ≤ w'.drawn := by have := runT_drawn P s w es; rwa [h] at this
theorem runF_halt {α : Type} {P : Program} {s : Sem α} {w w' : World} {es : Array Event} {a : Halt} (h : (s.runT P w es).1 = .halt a w') : w.drawn ≤ w'.drawn := by have := runT_drawn P s w es; rwa [h] at this
theorem upR_ok {α : Type} {r : Result α} {w w' : World} {a : α} (hr : w.drawn ≤ (rW r).drawn) (h : r = .ok a w') : w.drawn ≤ w'.drawn := by subst h; exact hr
theorem upR_halt {α : Type} {r : Result α} {w w' : World} {a : Halt} (hr : w.drawn ≤ (rW r).drawn) (h : r = .halt a w') : w.drawn ≤ w'.drawn := by subst h; exact hr
theorem early_up (p : Program) (fr : Frame) (callers : List Frame) (dying : Option Dying) (g : Nat) (w : World) : Up w (early p fr callers dying g w) := by
  have h0 := run_drawn p (choose (.early g)) w
  unfold early
  simp only
  generalize Sem.run p (choose (.early g)) w = R at h0 ⊢
  repeat' (first | exact Nat.le_refl _ | split)
  all_goals exact h0
theorem doReturn_up (p : Program) (main : Bool) (fr : Frame) (callers : List Frame) (dying : Option Dying) (v : Value) (w : World) : Up w (doReturn p main fr callers dying v w) := by
  unfold doReturn
  simp only
  repeat' (first | exact Nat.le_refl _ | split)
theorem callDeferred_up (p : Program) (fr : Frame) (callers : List Frame) (dying : Option Dying) (d : Deferred) (w : World) : Up w (callDeferred p fr callers dying d w) := by
  unfold callDeferred
  generalize ((match d.target with | .nil => true | _ => false) && (match fr.mode with | .panicking _ => true | _ => false)) = bb
  cases bb
  rotate_left
  · exact Nat.le_refl _
  · simp only [Bool.false_eq_true, if_false]
    refine Up.after ?_
    split
    all_goals first
      | exact runF_ok ‹_›
      | exact runF_halt ‹_›
      | exact Up.of (runF_halt ‹_›) (endFatal_up _ _ _ _ _ _)
      | exact Up.of (runF_halt ‹_›) (endThrow_up _ _ _)
      | (split <;> exact runF_ok ‹_›)
theorem unwind_up (p : Program) (main : Bool) (fr : Frame) (callers : List Frame) (dying : Option Dying) (w : World) : Up w (unwind p main fr callers dying w) := by
  unfold unwind
  split
  · simp only
    refine Up.after ?_
    split
    · exact runF_ok ‹_›
    · exact runF_halt ‹_›
  · exact callDeferred_up _ _ _ _ _ _
  · split
    · exact Nat.le_refl _
    · repeat' (first | exact Nat.le_refl _ | exact run_ok ‹_› | exact run_halt ‹_› | exact endPrinting_up _ _ _ _ | split)
    · split
      · exact doReturn_up _ _ _ _ _ _ _
      · simp only
        refine Up.after ?_
        split
        · exact Up.of (runF_ok ‹_›) (doReturn_up _ _ _ _ _ _ _)
        · exact runF_halt ‹_›
        · exact runF_halt ‹_›
theorem apply_up (p : Program) (fr : Frame) (callers : List Frame) (dying : Option Dying) (listen : Bool) (s : Sem Next) (w : World) : Up w (stepG.apply p listen fr callers dying s w) := by
  have hr : w.drawn ≤ (rW (if listen then s.runT p w #[] else (s.run p w, #[])).1).drawn := by
    split
    · exact runT_drawn _ _ _ _
    · exact run_drawn _ _ _
  unfold stepG.apply
  simp only
  generalize (if listen then s.runT p w #[] else (s.run p w, #[])) = R at hr ⊢
  obtain ⟨r, es⟩ := R
  replace hr : w.drawn ≤ (rW r).drawn := hr
  refine Up.after ?_
  split
  all_goals first
    | exact upR_ok hr ‹_›
    | exact upR_halt hr ‹_›
    | exact Up.of (upR_halt hr ‹_›) (endFatal_up _ _ _ _ _ _)
    | exact Up.of (upR_halt hr ‹_›) (endThrow_up _ _ _)
    | exact Up.of (upR_halt hr ‹_›) (early_up _ _ _ _ _ _)
    | (split <;> first | exact upR_ok hr ‹_› | exact Up.of (upR_ok hr ‹_›) (endThrow_up _ _ _) | (split <;> first | exact upR_ok hr ‹_› | exact Up.of (upR_ok hr ‹_›) (endThrow_up _ _ _)))
theorem oper_up (p : Program) (fr : Frame) (callers : List Frame) (dying : Option Dying) (listen : Bool) (w : World) : Up w (stepG.oper p listen fr callers dying w) := by
  unfold stepG.oper
  split
  · exact Nat.le_refl _
  · split <;> exact apply_up _ _ _ _ _ _ _
theorem exec_up (p : Program) (main : Bool) (fr : Frame) (callers : List Frame) (dying : Option Dying) (listen : Bool) (w : World) : Up w (stepG.exec p main listen fr callers dying w) := by
  unfold stepG.exec
  simp only [Option.elim]
  repeat' (first
    | exact Nat.le_refl _
    | exact apply_up _ _ _ _ _ _ _
    | exact oper_up _ _ _ _ _ _
    | exact Up.of (runF_ok ‹_›) (doReturn_up _ _ _ _ _ _ _)
    | exact Up.of (runF_ok ‹_›) (apply_up _ _ _ _ _ _ _)
    | refine Up.after ?_
    | exact runF_ok ‹_›
    | exact runF_halt ‹_›
    | exact run_ok ‹_›
    | exact run_halt ‹_›
    | split)
theorem stepG_up (p : Program) (main : Bool) (g : Goroutine) (w : World) (listen : Bool) : Up w (stepG p main g w listen) := by
  unfold stepG
  simp only
  split
  · exact die_up _ _ _ _
  · exact exec_up _ _ _ _ _ _ _
  · exact unwind_up _ _ _ _ _ _
def UpS (w : World) : Stepped → Prop
  | .next m => w.drawn ≤ m.world.drawn
  | .ended _ _ => True
theorem drain_drawn (w : World) (c : Nat) : (drain w c).2.drawn = w.drawn := by
  unfold drain; split <;> rfl
theorem retime_drawn (m : Machine) (k : Nat) (t : Timer) (when period : Nat) : (retime m k t when period).2.world.drawn = m.world.drawn := by
  unfold retime
  cases t.chan with
  | none => rfl
  | some c => exact drain_drawn m.world c
theorem timerOp_drawn {m : Machine} {op : TimerOp} {v : Value} {m' : Machine} (h : timerOp m op = .ok (v, m')) : m'.world.drawn = m.world.drawn := by
  unfold timerOp at h
  split at h
  · split at h
    · cases h; rfl
    · split at h
      · split at h
        · cases h
        · cases h; rfl
      · cases h
  · unfold timerOp.named at h
    split at h
    · cases h; exact retime_drawn _ _ _ _ _
    · cases h
  · split at h
    · rename_i m2 ho
      have e : m2.world.drawn = m.world.drawn := by
        unfold timerOp.opened at ho
        split at ho
        · split at ho
          · cases ho; rfl
          · cases ho
        · cases ho; rfl
      unfold timerOp.named at h
      split at h
      · cases h; exact (retime_drawn _ _ _ _ _).trans e
      · cases h
    · cases h
  · cases h; rfl
theorem look_up (p : Program) (gs : Array Goroutine) (rest : Rest) (w : World) : UpS w (look p gs rest w) := by
  unfold look
  split
  · simp only
    split
    · exact True.intro
    · split
      · exact True.intro
      · generalize hR : Sem.run p _ w = R
        have h0 : w.drawn ≤ (rW R).drawn := by rw [← hR]; exact run_drawn _ _ _
        clear hR
        split
        · exact h0
        · exact True.intro
        · exact True.intro
  · exact True.intro
theorem communicate_up (p : Program) (rest : Rest) (gs : Array Goroutine) (i : Nat) (g : Goroutine) (cases : Array CommCase) (blocking : Bool) (shape : CommShape) (w : World) : UpS w (communicate p rest gs i g cases blocking shape w).1 := by
  unfold communicate
  simp only
  split
  · exact True.intro
  · split
    · split
      · split
        · rename_i h
          unfold waitingAt at h
          split at h
          · split at h
            · cases h; exact Nat.le_refl _
            · cases h
          · cases h; exact Nat.le_refl _
        · exact True.intro
      · exact Nat.le_refl _
    · split
      · exact True.intro
      · rename_i h
        have h1 := run_ok h
        clear h
        repeat' (first | exact True.intro | exact h1 | (have h2 := run_ok ‹Sem.run _ _ _ = Result.ok _ _›; exact Nat.le_trans h1 h2) | (have h2 := run_halt ‹Sem.run _ _ _ = Result.halt _ _›; exact Nat.le_trans h1 h2) | split)
theorem UpS.of {w w' : World} {s : Stepped} (h : w.drawn ≤ w'.drawn) (h' : UpS w' s) : UpS w s := by
  cases s with
  | next m => exact Nat.le_trans h h'
  | ended o w => exact True.intro
theorem runT2_up (p : Program) (m : Machine) (i : Nat) (listen : Bool) : UpS m.world (runT p m i listen).1 := by
  unfold runT
  simp only
  have hg := stepG_up p (i == 0) (m.gs.swapAt! i { (default : Goroutine) with status := .finished }).1 m.world listen
  generalize stepG p (i == 0) (m.gs.swapAt! i { (default : Goroutine) with status := .finished }).1 m.world listen = s at hg ⊢
  generalize (m.gs.swapAt! i { (default : Goroutine) with status := .finished }) = gg at *
  split
  all_goals first
    | exact True.intro
    | exact hg
    | exact UpS.of hg (communicate_up _ _ _ _ _ _ _ _ _)
    | exact UpS.of hg (look_up _ _ _ _)
    | skip
  · dsimp only
    split
    · exact True.intro
    · exact hg
  · dsimp only
    split
    · exact hg
    · exact hg
    · exact True.intro
  · dsimp only
    split
    · rename_i h
      have e := timerOp_drawn h
      exact Nat.le_trans hg (Nat.le_of_eq e.symm)
    · exact hg
    · exact True.intro
    · exact True.intro
def UpM (w : World) : Move → Prop
  | .goroutine m _ => w.drawn ≤ m.world.drawn
  | .machine s _ => UpS w s
theorem UpM.of {w w' : World} {s : Move} (h : w.drawn ≤ w'.drawn) (h' : UpM w' s) : UpM w s := by
  cases s with
  | goroutine m i => exact Nat.le_trans h h'
  | machine s o => exact UpS.of h h'
theorem serve_up (p : Program) (m : Machine) (k : Nat) : UpS m.world (serve p m k) := by
  unfold serve
  split
  · exact True.intro
  · exact Nat.le_refl _
  · simp only
    split
    · exact True.intro
    · exact Nat.le_refl _
theorem pick_up (p : Program) (m : Machine) (rs : List Nat) : UpM m.world (match (choose (.sched rs.length)).run p m.world with
      | .halt _ w => .machine (.ended (.stuck "sched" "") w)
      | .ok k world =>
        if rs.length ≤ 1 then .goroutine { m with world } (rs.getD k 0) else
        match (choose (.extern "sched.slice" 65536)).run p world with
        | .halt _ w => .machine (.ended (.stuck "sched.slice" "") w)
        | .ok n world => .goroutine { m with world, rest := { m.rest with slice := if n = 0 then none else some (rs.getD k 0, n) } } (rs.getD k 0)) := by
  split
  · exact True.intro
  · rename_i h
    have h1 := run_ok h
    split
    · exact h1
    · split
      · exact True.intro
      · rename_i h2
        exact Nat.le_trans h1 (run_ok h2)
theorem askOn_up (p : Program) (m : Machine) : UpM m.world (askOn p m) := by
  unfold askOn
  simp only
  generalize hR : Sem.run p _ m.world = R
  have h0 : m.world.drawn ≤ (rW R).drawn := by rw [← hR]; exact run_drawn _ _ _
  clear hR
  split
  · exact True.intro
  · split
    · exact UpS.of h0 (serve_up p _ _)
    · split
      · split
        · exact h0
        · split
          · exact h0
          · split <;> exact True.intro
      · split
        · exact UpM.of h0 (pick_up p { m with world := _ } _)
        · generalize hR2 : Sem.run p _ _ = R2
          have h2 := fun {a : Nat} {w' : World} (e : R2 = Result.ok a w') => Nat.le_trans h0 (run_ok (hR2.trans e))
          clear hR2
          split
          · exact True.intro
          · rename_i world
            exact UpM.of (h2 rfl) (pick_up p { m with world } _)
          · exact Nat.le_trans (h2 rfl) (Nat.le_refl _)
          · rename_i k world
            exact UpM.of (h2 rfl) (pick_up p (Machine.advanceTo { m with world } _) _)
theorem ask_up (p : Program) (m : Machine) : UpM m.world (ask p m) := by
  unfold ask
  split
  · generalize hR : Sem.run p _ m.world = R
    have h0 : m.world.drawn ≤ (rW R).drawn := by rw [← hR]; exact run_drawn _ _ _
    clear hR
    split
    · exact True.intro
    · rename_i world
      have h1 := look_up p m.gs m.rest world
      split
      · rename_i m' e
        rw [e] at h1
        exact UpM.of (Nat.le_trans h0 h1) (askOn_up _ _)
      · exact UpS.of h0 h1
    · exact UpM.of h0 (askOn_up _ _)
  · exact askOn_up _ _
theorem move_up (p : Program) (m : Machine) : UpM m.world (move p m) := by
  unfold move
  split
  · split
    · exact Nat.le_refl _
    · exact True.intro
  · split
    · split
      · exact Nat.le_refl _
      · exact ask_up _ _
    · exact ask_up _ _
theorem step_up {P : Program} {m m' : Machine} (h : step P m = .next m') : m.world.drawn ≤ m'.world.drawn := by
  have hm := move_up P m
  have hs : UpS m.world (step P m) := by
    unfold step stepT
    generalize move P m = M at hm
    cases M with
    | goroutine m1 i => exact UpS.of hm (runT2_up P m1 i true)
    | machine s o => exact hm
  rw [h] at hs
  exact hs
theorem runN_up {P : Program} : ∀ {n : Nat} {m m' : Machine}, runN P n m = .next m' → m.world.drawn ≤ m'.world.drawn
  | 0, m, m', h => by cases h; exact Nat.le_refl _
  | n + 1, m, m', h => by
    unfold runN at h
    split at h
    · rename_i e
      exact Nat.le_trans (step_up e) (runN_up h)
    · rename_i e
      exact (e _ h).elim
theorem calls_drawn {P : Program} {f : FuncId} {args : Array Value} {w : World} {R : Ending → World → Prop} (h : Calls P f args w R) (hR : ∀ e w', R e w' → ∃ v, e = .returned v) : Calls P f args w (fun e w' => R e w' ∧ w.drawn ≤ w'.drawn) := by
  intro cs
  obtain ⟨e, w', fr, h1, h2, h3⟩ := h cs
  obtain ⟨v, rfl⟩ := hR _ _ h1
  obtain ⟨n, hn⟩ := h2
  exact ⟨_, w', fr, ⟨h1, runN_up hn⟩, ⟨n, hn⟩, h3⟩
end Go.Proofs.YtbnomdlojmgigaaGreat
