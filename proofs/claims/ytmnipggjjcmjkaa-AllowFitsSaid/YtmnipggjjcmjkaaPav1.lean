/-
  Chances that do not fall: what the law on fits asks for; and the greatest least share (the reference's way) is the same. No program is in sight here.
-/
import Derived.Test.YtmnipggjjcmjkaaPav0
set_option linter.unusedSimpArgs false
set_option linter.unusedVariables false
namespace Go.Proofs.Ytmnipggjjcmjkaa

/-- None is below the one ahead of it. -/
def upI (l : List Rat) : Prop := ∀ (i : Nat) (x y : Rat), l[i]? = some x → l[i + 1]? = some y → x ≤ y
theorem upI_upL : ∀ {l : List Rat} {y0 : Rat}, (∀ x, l[0]? = some x → y0 ≤ x) → upI l → upL y0 l
  | [], _, _, _ => True.intro
  | a :: l, y0, h0, h => ⟨h0 a rfl, upI_upL (fun x hx => h 0 a x rfl (by simpa using hx)) (fun i x y hx hy => h (i + 1) x y (by simpa using hx) (by simpa using hy))⟩
theorem out_le : ∀ {r : List (List Cls)} {v : Rat}, (∀ b ∈ r, shQ (sumC b) ≤ v) → ∀ x ∈ outR r, x ≤ v
  | [], _, _, x, hx => by simp [outR] at hx
  | a :: r, v, h, x, hx => by
    rcases List.mem_append.1 hx with hx | hx
    · exact out_le (fun b hb => h b (by simp [hb])) x hx
    · rw [(List.mem_replicate.1 hx).2]; exact h a (by simp)
theorem upI_append {p q : List Rat} (hp : upI p) (hq : upI q) (h : ∀ x ∈ p, ∀ y ∈ q, x ≤ y) : upI (p ++ q) := fun i x y hx hy => by
  by_cases e : i + 1 < p.length
  · rw [List.getElem?_append_left (by omega)] at hx hy
    exact hp i x y hx hy
  · by_cases e2 : i < p.length
    · rw [List.getElem?_append_left e2] at hx
      rw [List.getElem?_append_right (by omega)] at hy
      exact h x (List.mem_of_getElem? hx) y (List.mem_of_getElem? hy)
    · rw [List.getElem?_append_right (by omega)] at hx hy
      exact hq (i - p.length) x y hx (by rwa [show i + 1 - p.length = i - p.length + 1 by omega] at hy)
theorem upI_rep (n : Nat) (v : Rat) : upI (List.replicate n v) := fun i x y hx hy => by
  rw [(List.mem_replicate.1 (List.mem_of_getElem? hx)).2, (List.mem_replicate.1 (List.mem_of_getElem? hy)).2]; exact Rat.le_refl
theorem out_up : ∀ {r : List (List Cls)}, chain r → upI (outR r)
  | [], _ => fun i x y hx _ => by simp [outR] at hx
  | a :: r, h => upI_append (out_up h.2.2) (upI_rep _ _) (fun x hx y hy => by rw [(List.mem_replicate.1 hy).2]; exact out_le h.2.1 x hx)
theorem pav_fits {l : List Cls} (h : okT l) : (outR (pavL l)).length = l.length ∧ upI (outR (pavL l)) ∧ (∀ ys : List Rat, ys.length = l.length → upI ys → mfL l (outR (pavL l)) ≤ mfL l ys) ∧ (upI (l.map shQ) ↔ mfL l (outR (pavL l)) = 0) := by
  obtain ⟨hc, hf⟩ := pav_ok h
  have hl : (outR (pavL l)).length = l.length := by rw [outR_len, hf]
  have hb : ∀ ys : List Rat, ys.length = l.length → upI ys → mfL l (outR (pavL l)) ≤ mfL l ys := fun ys hy hu => by
    have := pav_best (pavL l) ys (ys.headD 0) hc (by rw [hf, hy]) (upI_upL (fun x hx => by cases ys with | nil => simp at hx | cons a t => simp at hx; subst hx; exact Rat.le_refl) hu)
    rwa [hf] at this
  refine ⟨hl, out_up hc, hb, fun hu => ?_, fun hz => ?_⟩
  · have := hb _ (by simp) hu
    rw [mf_self] at this
    exact Rat.le_antisymm this (mfL_nn _ _ h)
  · rw [← mf_zero l _ hl.symm h hz]; exact out_up hc

/-- What lies above v in the first ones. -/
theorem preOk_take {v : Rat} : ∀ {l : List Cls} {acc : Rat}, 0 ≤ acc → preOk v acc l → ∀ n, 0 ≤ acc + dsum v (l.take n)
  | [], acc, h, _, n => by simp [dsum]; grind
  | c :: l, acc, h, hp, 0 => by simp [dsum]; grind
  | c :: l, acc, h, hp, n + 1 => by
    have := preOk_take hp.1 hp.2 n
    show 0 ≤ acc + ((Fq c - v * Tq c) + dsum v (l.take n))
    grind
theorem dsum_anti {v v' : Rat} (hv : v' ≤ v) : ∀ {l : List Cls}, okT l → dsum v l ≤ dsum v' l
  | [], _ => Rat.le_refl
  | c :: l, h => by
    obtain ⟨t, h'⟩ := okT_cons h
    have m := Rat.mul_nonneg (show 0 ≤ v - v' by grind) (Rat.le_of_lt t)
    have := dsum_anti hv h'
    show (Fq c - v * Tq c) + dsum v l ≤ (Fq c - v' * Tq c) + dsum v' l
    grind
theorem okT_drop {l : List Cls} (h : okT l) (n : Nat) : okT (l.drop n) := fun c hc => h c (List.mem_of_mem_drop hc)
theorem okT_tk {l : List Cls} (h : okT l) (n : Nat) : okT (l.take n) := fun c hc => h c (List.mem_of_mem_take hc)
theorem seg_take {a : List Cls} (h : segOk a) {v : Rat} (hv : v ≤ shQ (sumC a)) (n : Nat) : 0 ≤ dsum v (a.take n) := by
  have := preOk_take (Rat.le_refl) h.2.2 n
  have b := dsum_anti hv (okT_tk h.2.1 n)
  grind
theorem seg_drop {a : List Cls} (h : segOk a) {v : Rat} (hv : shQ (sumC a) ≤ v) (n : Nat) : dsum v (a.drop n) ≤ 0 := by
  have k := preOk_take (Rat.le_refl) h.2.2 n
  have z := dsum_zero h.2.1 h.1
  have e := dsum_append (shQ (sumC a)) (a.take n) (a.drop n)
  rw [List.take_append_drop, z] at e
  have b := dsum_anti hv (okT_drop h.2.1 n)
  grind
theorem chain_drop : ∀ {s : List (List Cls)}, chain s → ∀ {v : Rat}, (∀ b ∈ s, shQ (sumC b) ≤ v) → ∀ n, dsum v ((flatR s).drop n) ≤ 0
  | [], _, v, _, n => by simp [flatR, dsum]
  | a :: r, h, v, hv, n => by
    have i := chain_drop h.2.2 (fun b hb => hv b (by simp [hb])) n
    have j := seg_drop h.1 (hv a (by simp)) (n - (flatR r).length)
    rw [flatR_cons, List.drop_append, dsum_append]
    grind
/-- The segment of a chance. -/
theorem seg_at : ∀ {s : List (List Cls)}, chain s → ∀ {j : Nat} {v : Rat}, (outR s)[j]? = some v → ∃ P a T : List Cls, flatR s = P ++ a ++ T ∧ P.length ≤ j ∧ j < P.length + a.length ∧ (∀ n, dsum v ((P ++ a).drop n) ≤ 0) ∧ (∀ n, 0 ≤ dsum v ((a ++ T).take n))
  | [], _, j, v, h => by simp [outR] at h
  | a :: r, hc, j, v, h => by
    have h' : (outR r ++ List.replicate a.length (shQ (sumC a)))[j]? = some v := h
    by_cases e : j < (outR r).length
    · rw [List.getElem?_append_left e] at h'
      obtain ⟨P, b, T, h1, h2, h3, h4, h5⟩ := seg_at hc.2.2 h'
      refine ⟨P, b, T ++ a, by rw [flatR_cons, h1]; simp, h2, h3, h4, fun n => ?_⟩
      have hv := out_le hc.2.1 v (List.mem_of_getElem? h')
      rw [← List.append_assoc, List.take_append, dsum_append]
      have k1 := h5 n
      have k2 := seg_take hc.1 hv (n - (b ++ T).length)
      grind
    · rw [List.getElem?_append_right (by omega)] at h'
      have hv := (List.mem_replicate.1 (List.mem_of_getElem? h')).2
      have hj := (List.getElem?_eq_some_iff.1 h').1
      rw [List.length_replicate] at hj
      rw [outR_len] at e hj
      subst hv
      refine ⟨flatR r, a, [], by rw [flatR_cons]; simp, by omega, by omega, fun n => ?_, fun n => ?_⟩
      · have := chain_drop (s := a :: r) hc (v := shQ (sumC a)) (fun b hb => by
          rcases List.mem_cons.1 hb with rfl | hb
          · exact Rat.le_refl
          · exact hc.2.1 b hb) n
        rwa [flatR_cons] at this
      · rw [List.append_nil]; exact seg_take hc.1 Rat.le_refl n
/-- The share of the classes from f to t. -/
def rgC (l : List Cls) (f t : Nat) : List Cls := (l.drop f).take (t + 1 - f)
def shR (l : List Cls) (f t : Nat) : Rat := shQ (sumC (rgC l f t))
theorem share_ge {l : List Cls} (h : okT l) (hl : l ≠ []) {v : Rat} (hd : 0 ≤ dsum v l) : v ≤ shQ (sumC l) := Rat.not_lt.1 fun c => by
  have P := sumC_pos h hl
  have e := sh_mul P
  have P' : 0 < Tq (sumC l) := by unfold Tq; exact_mod_cast P
  have m := Rat.mul_pos (show 0 < v - shQ (sumC l) by grind) P'
  rw [dsum_eq] at hd
  grind
theorem share_le {l : List Cls} (h : okT l) (hl : l ≠ []) {v : Rat} (hd : dsum v l ≤ 0) : shQ (sumC l) ≤ v := Rat.not_lt.1 fun c => by
  have P := sumC_pos h hl
  have e := sh_mul P
  have P' : 0 < Tq (sumC l) := by unfold Tq; exact_mod_cast P
  have m := Rat.mul_pos (show 0 < shQ (sumC l) - v by grind) P'
  rw [dsum_eq] at hd
  grind
/-- The least share from f to i or a later one of n. -/
def lsQ (l : List Cls) (f i : Nat) : Nat → Rat
  | 0 => shR l f i
  | n + 1 => if shR l f (i + n) < lsQ l f i n then shR l f (i + n) else lsQ l f i n
/-- The greatest of them, over the first n beginnings. -/
def gsQ (l : List Cls) (i : Nat) : Nat → Rat
  | 0 => 0
  | n + 1 => if n = 0 then lsQ l 0 i (l.length - i) else if gsQ l i n < lsQ l n i (l.length - i) then lsQ l n i (l.length - i) else gsQ l i n
theorem lsQ_le (l : List Cls) (f i : Nat) : ∀ n, ∀ t, t < n → lsQ l f i n ≤ shR l f (i + t)
  | n + 1, t, h => by
    unfold lsQ
    by_cases e : t = n
    · subst e; split <;> grind
    · have := lsQ_le l f i n t (by omega)
      split <;> grind
theorem lsQ_ge (l : List Cls) (f i : Nat) {v : Rat} : ∀ n, v ≤ shR l f i → (∀ t, t < n → v ≤ shR l f (i + t)) → v ≤ lsQ l f i n
  | 0, h0, _ => h0
  | n + 1, h0, h => by
    unfold lsQ
    have := lsQ_ge l f i n h0 (fun t ht => h t (by omega))
    have b := h n (by omega)
    split <;> assumption
theorem gsQ_ge (l : List Cls) (i : Nat) : ∀ n, ∀ f, f < n → lsQ l f i (l.length - i) ≤ gsQ l i n
  | n + 1, f, h => by
    unfold gsQ
    by_cases e : f = n
    · subst e
      split
      · rename_i h0; subst h0; exact Rat.le_refl
      · split <;> grind
    · have := gsQ_ge l i n f (by omega)
      rw [if_neg (show ¬ n = 0 by omega)]
      split <;> grind
theorem gsQ_le (l : List Cls) (i : Nat) {v : Rat} : ∀ n, 0 < n → (∀ f, f < n → lsQ l f i (l.length - i) ≤ v) → gsQ l i n ≤ v
  | n + 1, _, h => by
    unfold gsQ
    split
    · exact h 0 (by omega)
    · have := gsQ_le l i n (by omega) (fun f hf => h f (by omega))
      have b := h n (by omega)
      split <;> assumption
theorem rgC_ne {l : List Cls} {f t : Nat} (h1 : f ≤ t) (h2 : t < l.length) : rgC l f t ≠ [] := by
  refine List.length_pos_iff.1 ?_
  unfold rgC
  rw [List.length_take, List.length_drop]; omega
/-- The reference's way comes to the same. -/
theorem pav_gs {l : List Cls} (h : okT l) {i : Nat} {v : Rat} (hi : (outR (pavL l))[i]? = some v) : gsQ l i (i + 1) = v := by
  obtain ⟨hc, hf⟩ := pav_ok h
  obtain ⟨P, a, T, e, h1, h2, h3, h4⟩ := seg_at hc hi
  rw [hf] at e
  have hlen : l.length = P.length + a.length + T.length := by rw [e]; simp [Nat.add_assoc]
  refine Rat.le_antisymm (gsQ_le l i _ (by omega) fun f hf' => ?_) (Rat.le_trans ?_ (gsQ_ge l i (i + 1) P.length (by omega)))
  · refine Rat.le_trans (lsQ_le l f i _ (P.length + a.length - 1 - i) (by omega)) ?_
    rw [show i + (P.length + a.length - 1 - i) = P.length + a.length - 1 by omega]
    refine share_le (okT_tk (okT_drop h _) _) (rgC_ne (by omega) (by omega)) ?_
    have k := h3 f
    have e2 : rgC l f (P.length + a.length - 1) = (P ++ a).drop f := by
      unfold rgC
      rw [e, List.drop_append, List.take_append, List.length_drop]
      rw [show P.length + a.length - 1 + 1 - f - ((P ++ a).length - f) = 0 by simp; omega, List.take_zero, List.append_nil]
      exact List.take_of_length_le (by simp; omega)
    show dsum v (rgC l f (P.length + a.length - 1)) ≤ 0
    rw [e2]; exact k
  · have hp : ∀ t, i ≤ t → t < l.length → v ≤ shR l P.length t := fun t ht1 ht2 => by
      refine share_ge (okT_tk (okT_drop h _) _) (rgC_ne (by omega) ht2) ?_
      have e2 : rgC l P.length t = (a ++ T).take (t + 1 - P.length) := by
        unfold rgC
        rw [e, List.append_assoc, List.drop_left]
      show 0 ≤ dsum v (rgC l P.length t)
      rw [e2]; exact h4 _
    exact lsQ_ge l _ _ _ (hp i (Nat.le_refl _) (by omega)) (fun t ht => hp _ (by omega) (by omega))
end Go.Proofs.Ytmnipggjjcmjkaa
