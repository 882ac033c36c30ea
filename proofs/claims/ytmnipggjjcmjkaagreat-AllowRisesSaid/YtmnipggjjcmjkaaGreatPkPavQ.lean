/-
  Chances that do not fall and fit classes best: joined classes, one above the other; what they are together; that no other chances fit better. No program is in sight here.
-/

set_option linter.unusedSimpArgs false
set_option linter.unusedVariables false
namespace Go.Proofs.YtmnipggjjcmjkaaGreat

/-- A class: tried, found. -/
abbrev Cls := Int × Int
def Tq (c : Cls) : Rat := (c.1 : Rat)
def Fq (c : Cls) : Rat := (c.2 : Rat)
def shQ (c : Cls) : Rat := (c.2 : Rat) / (c.1 : Rat)
/-- Classes together. -/
def sumC : List Cls → Cls
  | [] => (0, 0)
  | c :: l => (c.1 + (sumC l).1, c.2 + (sumC l).2)
theorem sumC_append (p q : List Cls) : sumC (p ++ q) = ((sumC p).1 + (sumC q).1, (sumC p).2 + (sumC q).2) := by
  induction p with
  | nil => simp [sumC]
  | cons c p ih => simp only [List.cons_append, sumC, ih, Prod.mk.injEq]; constructor <;> omega
/-- Segments, the last one first: the new one is joined with what lies before, as long as the share before is greater. -/
def pavG : List Cls → List (List Cls) → List (List Cls)
  | a, [] => [a]
  | a, b :: r => if shQ (sumC a) < shQ (sumC b) then pavG (b ++ a) r else a :: b :: r
def pavL (l : List Cls) : List (List Cls) := l.foldl (fun st c => pavG [c] st) []
theorem pavL_snoc (l : List Cls) (c : Cls) : pavL (l ++ [c]) = pavG [c] (pavL l) := by
  unfold pavL; rw [List.foldl_append]; rfl
/-- What lies above v, class by class. -/
def dsum (v : Rat) : List Cls → Rat
  | [] => 0
  | c :: l => (Fq c - v * Tq c) + dsum v l
def preOk (v : Rat) : Rat → List Cls → Prop
  | _, [] => True
  | acc, c :: l => 0 ≤ acc + (Fq c - v * Tq c) ∧ preOk v (acc + (Fq c - v * Tq c)) l
def okT (l : List Cls) : Prop := ∀ c ∈ l, 0 < c.1
theorem okT_cons {c : Cls} {l : List Cls} (h : okT (c :: l)) : 0 < Tq c ∧ okT l := ⟨by unfold Tq; exact_mod_cast h c (by simp), fun x hx => h x (by simp [hx])⟩
theorem okT_append {p q : List Cls} (hp : okT p) (hq : okT q) : okT (p ++ q) := fun x hx => (List.mem_append.1 hx).elim (hp x) (hq x)
theorem sumC_pos : ∀ {l : List Cls}, okT l → l ≠ [] → 0 < (sumC l).1
  | [c], h, _ => by have := h c (by simp); simp [sumC]; exact this
  | c :: d :: l, h, _ => by
    have a := h c (by simp)
    have b := sumC_pos (l := d :: l) (fun x hx => h x (by simp at hx ⊢; exact .inr hx)) (by simp)
    show 0 < c.1 + (sumC (d :: l)).1
    omega
theorem sumT_nn {l : List Cls} (h : okT l) : 0 ≤ Tq (sumC l) := by
  by_cases e : l = []
  · subst e; show (0 : Rat) ≤ ((0 : Int) : Rat); decide +kernel
  · have := sumC_pos h e
    unfold Tq; exact_mod_cast Int.le_of_lt this
theorem dsum_eq (v : Rat) : ∀ l, dsum v l = Fq (sumC l) - v * Tq (sumC l)
  | [] => by show (0 : Rat) = ((0 : Int) : Rat) - v * ((0 : Int) : Rat); grind
  | c :: l => by
    show (Fq c - v * Tq c) + dsum v l = ((c.2 + (sumC l).2 : Int) : Rat) - v * ((c.1 + (sumC l).1 : Int) : Rat)
    rw [dsum_eq v l, Rat.intCast_add, Rat.intCast_add]
    unfold Fq Tq
    grind
theorem sh_mul {c : Cls} (h : 0 < c.1) : shQ c * Tq c = Fq c := by
  have a : (0 : Rat) < (c.1 : Rat) := by exact_mod_cast h
  unfold shQ Tq Fq; grind
theorem dsum_zero {l : List Cls} (h : okT l) (hl : l ≠ []) : dsum (shQ (sumC l)) l = 0 := by
  have := sh_mul (sumC_pos h hl)
  rw [dsum_eq]; grind
theorem dsum_append (v : Rat) (p q : List Cls) : dsum v (p ++ q) = dsum v p + dsum v q := by
  induction p with
  | nil => simp [dsum]; grind
  | cons c p ih => show (Fq c - v * Tq c) + dsum v (p ++ q) = (Fq c - v * Tq c) + dsum v p + dsum v q; rw [ih]; grind
theorem preOk_append (v : Rat) : ∀ (p q : List Cls) (acc : Rat), preOk v acc p → preOk v (acc + dsum v p) q → preOk v acc (p ++ q)
  | [], q, acc, _, h => by
    have e : acc + dsum v [] = acc := by show acc + 0 = acc; grind
    rw [e] at h; exact h
  | c :: p, q, acc, h, h2 => by
    refine ⟨h.1, preOk_append v p q _ h.2 ?_⟩
    have e : acc + dsum v (c :: p) = acc + (Fq c - v * Tq c) + dsum v p := by show acc + ((Fq c - v * Tq c) + dsum v p) = _; grind
    rw [e] at h2; exact h2
/-- A smaller v: more lies above it. -/
theorem preOk_down {v v' : Rat} (hv : v' ≤ v) : ∀ (l : List Cls) (acc acc' : Rat), okT l → acc ≤ acc' → preOk v acc l → preOk v' acc' l
  | [], _, _, _, _, _ => True.intro
  | c :: l, acc, acc', ht, ha, h => by
    obtain ⟨t, ht'⟩ := okT_cons ht
    have m := Rat.mul_nonneg (show 0 ≤ v - v' by grind) (Rat.le_of_lt t)
    have k : acc + (Fq c - v * Tq c) ≤ acc' + (Fq c - v' * Tq c) := by grind
    exact ⟨Rat.le_trans h.1 k, preOk_down hv l _ _ ht' k h.2⟩
/-- A greater v: what is ahead makes up for it. -/
theorem preOk_up {v v' : Rat} (hv : v' ≤ v) : ∀ (l : List Cls) (acc acc' : Rat), okT l → (v - v') * Tq (sumC l) ≤ acc' - acc → preOk v' acc l → preOk v acc' l
  | [], _, _, _, _, _ => True.intro
  | c :: l, acc, acc', ht, ha, h => by
    obtain ⟨t, ht'⟩ := okT_cons ht
    have s := sumT_nn ht'
    have m := Rat.mul_nonneg (show 0 ≤ v - v' by grind) s
    have e : Tq (sumC (c :: l)) = Tq c + Tq (sumC l) := by
      show ((c.1 + (sumC l).1 : Int) : Rat) = _
      rw [Rat.intCast_add]; rfl
    rw [e] at ha
    have k : (v - v') * Tq (sumC l) ≤ (acc' + (Fq c - v * Tq c)) - (acc + (Fq c - v' * Tq c)) := by grind
    exact ⟨by have := h.1; grind, preOk_up hv l _ _ ht' k h.2⟩
/-- A segment: what lies above its share comes first. -/
def segOk (l : List Cls) : Prop := l ≠ [] ∧ okT l ∧ preOk (shQ (sumC l)) 0 l
theorem seg_one {c : Cls} (h : 0 < c.1) : segOk [c] := by
  refine ⟨by simp, fun x hx => by simp at hx; rw [hx]; exact h, ?_, True.intro⟩
  have e : sumC [c] = c := by show (c.1 + 0, c.2 + 0) = c; simp
  rw [e]
  have := sh_mul h
  grind
theorem mid_share {a b x y v : Rat} (hx : 0 < x) (hy : 0 < y) (h : b < a) (e : v * (x + y) = a * x + b * y) : v ≤ a ∧ b ≤ v := by
  constructor
  · exact Rat.not_lt.1 fun c => by
      have k1 := Rat.mul_pos (show 0 < v - a by grind) hx
      have k2 := Rat.mul_pos (show 0 < v - b by grind) hy
      grind
  · exact Rat.not_lt.1 fun c => by
      have k1 := Rat.mul_pos (show 0 < b - v by grind) hy
      have k2 := Rat.mul_pos (show 0 < a - v by grind) hx
      grind
theorem acc_up {a b x y v : Rat} (e : v * (x + y) = a * x + b * y) : (v - b) * y ≤ (0 + (a * x - v * x)) - 0 := by grind
theorem seg_join {p q : List Cls} (hp : segOk p) (hq : segOk q) (h : shQ (sumC q) < shQ (sumC p)) : segOk (p ++ q) := by
  obtain ⟨p0, pt, pp⟩ := hp
  obtain ⟨q0, qt, qp⟩ := hq
  have ht := okT_append pt qt
  have h0 : p ++ q ≠ [] := by simp [p0]
  refine ⟨h0, ht, ?_⟩
  have P := sumC_pos pt p0
  have Q := sumC_pos qt q0
  have eP := sh_mul P
  have eQ := sh_mul Q
  have eS := sh_mul (sumC_pos ht h0)
  have P' : 0 < Tq (sumC p) := by unfold Tq; exact_mod_cast P
  have Q' : 0 < Tq (sumC q) := by unfold Tq; exact_mod_cast Q
  have eT : Tq (sumC (p ++ q)) = Tq (sumC p) + Tq (sumC q) := by unfold Tq; rw [sumC_append, Rat.intCast_add]
  have eF : Fq (sumC (p ++ q)) = Fq (sumC p) + Fq (sumC q) := by unfold Fq; rw [sumC_append, Rat.intCast_add]
  rw [eT, eF, ← eP, ← eQ] at eS
  have m := mid_share P' Q' h eS
  refine preOk_append _ p q 0 (preOk_down m.1 p 0 0 pt Rat.le_refl pp) (preOk_up m.2 q 0 _ qt ?_ qp)
  rw [dsum_eq, ← eP]
  exact acc_up eS
/-- Segments, the last one first, whose shares do not fall. -/
def chain : List (List Cls) → Prop
  | [] => True
  | a :: r => segOk a ∧ (∀ b ∈ r, shQ (sumC b) ≤ shQ (sumC a)) ∧ chain r
theorem pavG_ok : ∀ (r : List (List Cls)) (a : List Cls), segOk a → chain r → chain (pavG a r)
  | [], a, ha, _ => ⟨ha, (fun b hb => by simp at hb), True.intro⟩
  | b :: r, a, ha, hr => by
    unfold pavG
    split
    · rename_i h
      exact pavG_ok r (b ++ a) (seg_join hr.1 ha h) hr.2.2
    · rename_i h
      have k := Rat.not_lt.1 h
      refine ⟨ha, fun x hx => ?_, hr⟩
      rcases List.mem_cons.1 hx with rfl | hx
      · exact k
      · exact Rat.le_trans (hr.2.1 x hx) k
/-- All classes of segments, in order. -/
def flatR (r : List (List Cls)) : List Cls := r.reverse.flatten
theorem flatR_cons (a : List Cls) (r : List (List Cls)) : flatR (a :: r) = flatR r ++ a := by simp [flatR]
theorem pavG_flat : ∀ (r : List (List Cls)) (a : List Cls), flatR (pavG a r) = flatR r ++ a
  | [], a => by simp [pavG, flatR]
  | b :: r, a => by
    unfold pavG
    split
    · rw [pavG_flat r (b ++ a), flatR_cons, List.append_assoc]
    · rw [flatR_cons]
theorem pav_ok {l : List Cls} (h : okT l) : chain (pavL l) ∧ flatR (pavL l) = l := by
  suffices H : ∀ k, k ≤ l.length → chain (pavL (l.take k)) ∧ flatR (pavL (l.take k)) = l.take k by
    have := H l.length (Nat.le_refl _)
    rwa [List.take_length] at this
  intro k
  induction k with
  | zero => intro _; exact ⟨True.intro, rfl⟩
  | succ k ih =>
    intro hk
    obtain ⟨a, b⟩ := ih (by omega)
    rw [List.take_succ_eq_append_getElem hk, pavL_snoc]
    refine ⟨pavG_ok _ _ (seg_one (h _ (List.getElem_mem _))) a, ?_⟩
    rw [pavG_flat, b]
/-- The chances: a share for each class. -/
def outR : List (List Cls) → List Rat
  | [] => []
  | a :: r => outR r ++ List.replicate a.length (shQ (sumC a))
theorem outR_len : ∀ r : List (List Cls), (outR r).length = (flatR r).length
  | [] => rfl
  | a :: r => by rw [flatR_cons]; simp [outR, outR_len r]
/-- How far chances are from classes. -/
def mfL : List Cls → List Rat → Rat
  | c :: l, y :: ys => Tq c * (shQ c - y) * (shQ c - y) + mfL l ys
  | _, _ => 0
theorem mfL_append : ∀ (p : List Cls) (y : List Rat) (q : List Cls) (z : List Rat), p.length = y.length → mfL (p ++ q) (y ++ z) = mfL p y + mfL q z
  | [], [], q, z, _ => by show mfL q z = 0 + mfL q z; grind
  | c :: p, a :: y, q, z, h => by
    show Tq c * (shQ c - a) * (shQ c - a) + mfL (p ++ q) (y ++ z) = Tq c * (shQ c - a) * (shQ c - a) + mfL p y + mfL q z
    rw [mfL_append p y q z (by simpa using h)]; grind
theorem mul_self_nn (x : Rat) : 0 ≤ x * x := by
  rcases Rat.le_total (a := 0) (b := x) with h | h
  · exact Rat.mul_nonneg h h
  · have := Rat.mul_nonneg (show 0 ≤ -x by grind) (show 0 ≤ -x by grind); grind
theorem mfL_nn : ∀ (l : List Cls) (y : List Rat), okT l → 0 ≤ mfL l y
  | [], _, _ => by show (0 : Rat) ≤ 0; exact Rat.le_refl
  | _ :: _, [], _ => by show (0 : Rat) ≤ 0; exact Rat.le_refl
  | c :: l, a :: y, h => by
    obtain ⟨t, h'⟩ := okT_cons h
    have m := Rat.mul_nonneg (Rat.le_of_lt t) (mul_self_nn (shQ c - a))
    have n := mfL_nn l y h'
    show 0 ≤ Tq c * (shQ c - a) * (shQ c - a) + mfL l y
    grind
/-- Chances that do not fall. -/
def upL : Rat → List Rat → Prop
  | _, [] => True
  | y0, y :: ys => y0 ≤ y ∧ upL y ys
/-- The sum of what lies above v, times chances. -/
def dy (v : Rat) : List Cls → List Rat → Rat
  | c :: l, y :: ys => (Fq c - v * Tq c) * y + dy v l ys
  | _, _ => 0
theorem abel (v : Rat) : ∀ (l : List Cls) (ys : List Rat) (acc y0 : Rat), l.length = ys.length → 0 ≤ acc → preOk v acc l → acc + dsum v l = 0 → upL y0 ys → dy v l ys + acc * y0 ≤ 0
  | [], [], acc, y0, _, _, _, h, _ => by
    have e : acc = 0 := by have : acc + 0 = 0 := h; grind
    subst e; show (0 : Rat) + 0 * y0 ≤ 0; grind
  | c :: l, y :: ys, acc, y0, hl, ha, hp, h, hu => by
    have h' : acc + (Fq c - v * Tq c) + dsum v l = 0 := by have : acc + ((Fq c - v * Tq c) + dsum v l) = 0 := h; grind
    have ih := abel v l ys _ y (by simpa using hl) hp.1 hp.2 h' hu.2
    have m := Rat.mul_nonneg ha (show 0 ≤ y - y0 by have := hu.1; grind)
    show (Fq c - v * Tq c) * y + dy v l ys + acc * y0 ≤ 0
    grind
theorem mf_diff (v : Rat) : ∀ (l : List Cls) (ys : List Rat), l.length = ys.length → okT l → mfL l (List.replicate l.length v) + 2 * (v * dsum v l - dy v l ys) ≤ mfL l ys
  | [], [], _, _ => by show (0 : Rat) + 2 * (v * 0 - 0) ≤ 0; grind
  | c :: l, y :: ys, hl, h => by
    obtain ⟨t, h'⟩ := okT_cons h
    have ih := mf_diff v l ys (by simpa using hl) h'
    have e := sh_mul (h c (by simp))
    have m := Rat.mul_nonneg (Rat.le_of_lt t) (mul_self_nn (v - y))
    show Tq c * (shQ c - v) * (shQ c - v) + mfL l (List.replicate l.length v) + 2 * (v * ((Fq c - v * Tq c) + dsum v l) - ((Fq c - v * Tq c) * y + dy v l ys)) ≤ Tq c * (shQ c - y) * (shQ c - y) + mfL l ys
    rw [← e]
    grind
theorem seg_best {l : List Cls} (h : segOk l) {ys : List Rat} (hl : l.length = ys.length) {y0 : Rat} (hu : upL y0 ys) : mfL l (List.replicate l.length (shQ (sumC l))) ≤ mfL l ys := by
  obtain ⟨h0, ht, hp⟩ := h
  have z := dsum_zero ht h0
  have a := abel _ l ys 0 y0 hl Rat.le_refl hp (by rw [z]; grind) hu
  have b := mf_diff (shQ (sumC l)) l ys hl ht
  rw [z] at b
  grind
theorem upL_append : ∀ (p q : List Rat) (y0 : Rat), upL y0 (p ++ q) → upL y0 p ∧ ∃ y1, upL y1 q
  | [], q, y0, h => ⟨True.intro, y0, h⟩
  | a :: p, q, y0, h => by
    obtain ⟨u, v⟩ := upL_append p q a h.2
    exact ⟨⟨h.1, u⟩, v⟩
/-- No chances that do not fall fit better. -/
theorem pav_best : ∀ (r : List (List Cls)) (ys : List Rat) (y0 : Rat), chain r → (flatR r).length = ys.length → upL y0 ys → mfL (flatR r) (outR r) ≤ mfL (flatR r) ys
  | [], _, _, _, _, _ => by show (0 : Rat) ≤ 0; exact Rat.le_refl
  | a :: r, ys, y0, hc, hl, hu => by
    rw [flatR_cons] at hl ⊢
    have e : ys = ys.take (flatR r).length ++ ys.drop (flatR r).length := (List.take_append_drop _ _).symm
    have hlt : (ys.take (flatR r).length).length = (flatR r).length := by rw [List.length_take]; simp at hl; omega
    have hld : a.length = (ys.drop (flatR r).length).length := by rw [List.length_drop]; simp at hl; omega
    rw [e] at hu
    obtain ⟨u1, y1, u2⟩ := upL_append _ _ _ hu
    have i1 := pav_best r _ y0 hc.2.2 hlt.symm u1
    have i2 := seg_best hc.1 hld u2
    show mfL (flatR r ++ a) (outR r ++ List.replicate a.length (shQ (sumC a))) ≤ _
    rw [e, mfL_append _ _ _ _ (outR_len r).symm, mfL_append _ _ _ _ hlt.symm]
    grind
theorem mf_zero : ∀ (l : List Cls) (ys : List Rat), l.length = ys.length → okT l → mfL l ys = 0 → ys = l.map shQ
  | [], [], _, _, _ => rfl
  | c :: l, y :: ys, hl, h, hz => by
    obtain ⟨t, h'⟩ := okT_cons h
    have n := mfL_nn l ys h'
    have m := Rat.mul_nonneg (Rat.le_of_lt t) (mul_self_nn (shQ c - y))
    have hz' : Tq c * (shQ c - y) * (shQ c - y) + mfL l ys = 0 := hz
    have e1 : Tq c * ((shQ c - y) * (shQ c - y)) = 0 := by grind
    have e2 : (shQ c - y) * (shQ c - y) = 0 := by grind
    have e3 : shQ c - y = 0 := by grind
    have e4 : y = shQ c := by grind
    rw [mf_zero l ys (by simpa using hl) h' (by grind), e4]; rfl
theorem mf_self : ∀ (l : List Cls), mfL l (l.map shQ) = 0
  | [] => rfl
  | c :: l => by show Tq c * (shQ c - shQ c) * (shQ c - shQ c) + mfL l (l.map shQ) = 0; rw [mf_self l]; grind
end Go.Proofs.YtmnipggjjcmjkaaGreat
/-
  Chances that do not fall: what the law on fits asks for; and the greatest least share (the reference's way) is the same. No program is in sight here.
-/
namespace Go.Proofs.YtmnipggjjcmjkaaGreat

/-- None is below the one ahead of it. -/
def upI (l : List Rat) : Prop := ∀ (i : Nat) (x y : Rat), l[i]? = some x → l[i + 1]? = some y → x ≤ y
theorem upI_upL : ∀ {l : List Rat} {y0 : Rat}, (∀ x, l[0]? = some x → y0 ≤ x) → upI l → upL y0 l
  | [], _, _, _ => True.intro
  | a :: l, y0, h0, h => ⟨h0 a rfl, upI_upL (fun x hx => h 0 a x rfl (by simpa using hx)) (fun i x y hx hy => h (i + 1) x y (by simpa using hx) (by simpa using hy))⟩
theorem out_le : ∀ {r : List (List Cls)} {v : Rat}, (∀ b ∈ r, shQ (sumC b) ≤ v) → ∀ x ∈ outR r, x ≤ v
  | [], _, _, x, hx => by simp [outR] at hx
  | a :: r, v, h, x, hx => by
    rcases List.mem_append.1 hx with hx | hx
    · exact out_le (fun b hb => h b (by simp [hb])) x hx
    · rw [(List.mem_replicate.1 hx).2]; exact h a (by simp)
theorem upI_append {p q : List Rat} (hp : upI p) (hq : upI q) (h : ∀ x ∈ p, ∀ y ∈ q, x ≤ y) : upI (p ++ q) := fun i x y hx hy => by
  by_cases e : i + 1 < p.length
  · rw [List.getElem?_append_left (by omega)] at hx hy
    exact hp i x y hx hy
  · by_cases e2 : i < p.length
    · rw [List.getElem?_append_left e2] at hx
      rw [List.getElem?_append_right (by omega)] at hy
      exact h x (List.mem_of_getElem? hx) y (List.mem_of_getElem? hy)
    · rw [List.getElem?_append_right (by omega)] at hx hy
      exact hq (i - p.length) x y hx (by rwa [show i + 1 - p.length = i - p.length + 1 by omega] at hy)
theorem upI_rep (n : Nat) (v : Rat) : upI (List.replicate n v) := fun i x y hx hy => by
  rw [(List.mem_replicate.1 (List.mem_of_getElem? hx)).2, (List.mem_replicate.1 (List.mem_of_getElem? hy)).2]; exact Rat.le_refl
theorem out_up : ∀ {r : List (List Cls)}, chain r → upI (outR r)
  | [], _ => fun i x y hx _ => by simp [outR] at hx
  | a :: r, h => upI_append (out_up h.2.2) (upI_rep _ _) (fun x hx y hy => by rw [(List.mem_replicate.1 hy).2]; exact out_le h.2.1 x hx)
theorem pav_fits {l : List Cls} (h : okT l) : (outR (pavL l)).length = l.length ∧ upI (outR (pavL l)) ∧ (∀ ys : List Rat, ys.length = l.length → upI ys → mfL l (outR (pavL l)) ≤ mfL l ys) ∧ (upI (l.map shQ) ↔ mfL l (outR (pavL l)) = 0) := by
  obtain ⟨hc, hf⟩ := pav_ok h
  have hl : (outR (pavL l)).length = l.length := by rw [outR_len, hf]
  have hb : ∀ ys : List Rat, ys.length = l.length → upI ys → mfL l (outR (pavL l)) ≤ mfL l ys := fun ys hy hu => by
    have := pav_best (pavL l) ys (ys.headD 0) hc (by rw [hf, hy]) (upI_upL (fun x hx => by cases ys with | nil => simp at hx | cons a t => simp at hx; subst hx; exact Rat.le_refl) hu)
    rwa [hf] at this
  refine ⟨hl, out_up hc, hb, fun hu => ?_, fun hz => ?_⟩
  · have := hb _ (by simp) hu
    rw [mf_self] at this
    exact Rat.le_antisymm this (mfL_nn _ _ h)
  · rw [← mf_zero l _ hl.symm h hz]; exact out_up hc

/-- What lies above v in the first ones. -/
theorem preOk_take {v : Rat} : ∀ {l : List Cls} {acc : Rat}, 0 ≤ acc → preOk v acc l → ∀ n, 0 ≤ acc + dsum v (l.take n)
  | [], acc, h, _, n => by simp [dsum]; grind
  | c :: l, acc, h, hp, 0 => by simp [dsum]; grind
  | c :: l, acc, h, hp, n + 1 => by
    have := preOk_take hp.1 hp.2 n
    show 0 ≤ acc + ((Fq c - v * Tq c) + dsum v (l.take n))
    grind
theorem dsum_anti {v v' : Rat} (hv : v' ≤ v) : ∀ {l : List Cls}, okT l → dsum v l ≤ dsum v' l
  | [], _ => Rat.le_refl
  | c :: l, h => by
    obtain ⟨t, h'⟩ := okT_cons h
    have m := Rat.mul_nonneg (show 0 ≤ v - v' by grind) (Rat.le_of_lt t)
    have := dsum_anti hv h'
    show (Fq c - v * Tq c) + dsum v l ≤ (Fq c - v' * Tq c) + dsum v' l
    grind
theorem okT_drop {l : List Cls} (h : okT l) (n : Nat) : okT (l.drop n) := fun c hc => h c (List.mem_of_mem_drop hc)
theorem okT_tk {l : List Cls} (h : okT l) (n : Nat) : okT (l.take n) := fun c hc => h c (List.mem_of_mem_take hc)
theorem seg_take {a : List Cls} (h : segOk a) {v : Rat} (hv : v ≤ shQ (sumC a)) (n : Nat) : 0 ≤ dsum v (a.take n) := by
  have := preOk_take (Rat.le_refl) h.2.2 n
  have b := dsum_anti hv (okT_tk h.2.1 n)
  grind
theorem seg_drop {a : List Cls} (h : segOk a) {v : Rat} (hv : shQ (sumC a) ≤ v) (n : Nat) : dsum v (a.drop n) ≤ 0 := by
  have k := preOk_take (Rat.le_refl) h.2.2 n
  have z := dsum_zero h.2.1 h.1
  have e := dsum_append (shQ (sumC a)) (a.take n) (a.drop n)
  rw [List.take_append_drop, z] at e
  have b := dsum_anti hv (okT_drop h.2.1 n)
  grind
theorem chain_drop : ∀ {s : List (List Cls)}, chain s → ∀ {v : Rat}, (∀ b ∈ s, shQ (sumC b) ≤ v) → ∀ n, dsum v ((flatR s).drop n) ≤ 0
  | [], _, v, _, n => by simp [flatR, dsum]
  | a :: r, h, v, hv, n => by
    have i := chain_drop h.2.2 (fun b hb => hv b (by simp [hb])) n
    have j := seg_drop h.1 (hv a (by simp)) (n - (flatR r).length)
    rw [flatR_cons, List.drop_append, dsum_append]
    grind
/-- The segment of a chance. -/
theorem seg_at : ∀ {s : List (List Cls)}, chain s → ∀ {j : Nat} {v : Rat}, (outR s)[j]? = some v → ∃ P a T : List Cls, flatR s = P ++ a ++ T ∧ P.length ≤ j ∧ j < P.length + a.length ∧ (∀ n, dsum v ((P ++ a).drop n) ≤ 0) ∧ (∀ n, 0 ≤ dsum v ((a ++ T).take n))
  | [], _, j, v, h => by simp [outR] at h
  | a :: r, hc, j, v, h => by
    have h' : (outR r ++ List.replicate a.length (shQ (sumC a)))[j]? = some v := h
    by_cases e : j < (outR r).length
    · rw [List.getElem?_append_left e] at h'
      obtain ⟨P, b, T, h1, h2, h3, h4, h5⟩ := seg_at hc.2.2 h'
      refine ⟨P, b, T ++ a, by rw [flatR_cons, h1]; simp, h2, h3, h4, fun n => ?_⟩
      have hv := out_le hc.2.1 v (List.mem_of_getElem? h')
      rw [← List.append_assoc, List.take_append, dsum_append]
      have k1 := h5 n
      have k2 := seg_take hc.1 hv (n - (b ++ T).length)
      grind
    · rw [List.getElem?_append_right (by omega)] at h'
      have hv := (List.mem_replicate.1 (List.mem_of_getElem? h')).2
      have hj := (List.getElem?_eq_some_iff.1 h').1
      rw [List.length_replicate] at hj
      rw [outR_len] at e hj
      subst hv
      refine ⟨flatR r, a, [], by rw [flatR_cons]; simp, by omega, by omega, fun n => ?_, fun n => ?_⟩
      · have := chain_drop (s := a :: r) hc (v := shQ (sumC a)) (fun b hb => by
          rcases List.mem_cons.1 hb with rfl | hb
          · exact Rat.le_refl
          · exact hc.2.1 b hb) n
        rwa [flatR_cons] at this
      · rw [List.append_nil]; exact seg_take hc.1 Rat.le_refl n
/-- The share of the classes from f to t. -/
def rgC (l : List Cls) (f t : Nat) : List Cls := (l.drop f).take (t + 1 - f)
def shR (l : List Cls) (f t : Nat) : Rat := shQ (sumC (rgC l f t))
theorem share_ge {l : List Cls} (h : okT l) (hl : l ≠ []) {v : Rat} (hd : 0 ≤ dsum v l) : v ≤ shQ (sumC l) := Rat.not_lt.1 fun c => by
  have P := sumC_pos h hl
  have e := sh_mul P
  have P' : 0 < Tq (sumC l) := by unfold Tq; exact_mod_cast P
  have m := Rat.mul_pos (show 0 < v - shQ (sumC l) by grind) P'
  rw [dsum_eq] at hd
  grind
theorem share_le {l : List Cls} (h : okT l) (hl : l ≠ []) {v : Rat} (hd : dsum v l ≤ 0) : shQ (sumC l) ≤ v := Rat.not_lt.1 fun c => by
  have P := sumC_pos h hl
  have e := sh_mul P
  have P' : 0 < Tq (sumC l) := by unfold Tq; exact_mod_cast P
  have m := Rat.mul_pos (show 0 < shQ (sumC l) - v by grind) P'
  rw [dsum_eq] at hd
  grind
/-- The least share from f to i or a later one of n. -/
def lsQ (l : List Cls) (f i : Nat) : Nat → Rat
  | 0 => shR l f i
  | n + 1 => if shR l f (i + n) < lsQ l f i n then shR l f (i + n) else lsQ l f i n
/-- The greatest of them, over the first n beginnings. -/
def gsQ (l : List Cls) (i : Nat) : Nat → Rat
  | 0 => 0
  | n + 1 => if n = 0 then lsQ l 0 i (l.length - i) else if gsQ l i n < lsQ l n i (l.length - i) then lsQ l n i (l.length - i) else gsQ l i n
theorem lsQ_le (l : List Cls) (f i : Nat) : ∀ n, ∀ t, t < n → lsQ l f i n ≤ shR l f (i + t)
  | n + 1, t, h => by
    unfold lsQ
    by_cases e : t = n
    · subst e; split <;> grind
    · have := lsQ_le l f i n t (by omega)
      split <;> grind
theorem lsQ_ge (l : List Cls) (f i : Nat) {v : Rat} : ∀ n, v ≤ shR l f i → (∀ t, t < n → v ≤ shR l f (i + t)) → v ≤ lsQ l f i n
  | 0, h0, _ => h0
  | n + 1, h0, h => by
    unfold lsQ
    have := lsQ_ge l f i n h0 (fun t ht => h t (by omega))
    have b := h n (by omega)
    split <;> assumption
theorem gsQ_ge (l : List Cls) (i : Nat) : ∀ n, ∀ f, f < n → lsQ l f i (l.length - i) ≤ gsQ l i n
  | n + 1, f, h => by
    unfold gsQ
    by_cases e : f = n
    · subst e
      split
      · rename_i h0; subst h0; exact Rat.le_refl
      · split <;> grind
    · have := gsQ_ge l i n f (by omega)
      rw [if_neg (show ¬ n = 0 by omega)]
      split <;> grind
theorem gsQ_le (l : List Cls) (i : Nat) {v : Rat} : ∀ n, 0 < n → (∀ f, f < n → lsQ l f i (l.length - i) ≤ v) → gsQ l i n ≤ v
  | n + 1, _, h => by
    unfold gsQ
    split
    · exact h 0 (by omega)
    · have := gsQ_le l i n (by omega) (fun f hf => h f (by omega))
      have b := h n (by omega)
      split <;> assumption
theorem rgC_ne {l : List Cls} {f t : Nat} (h1 : f ≤ t) (h2 : t < l.length) : rgC l f t ≠ [] := by
  refine List.length_pos_iff.1 ?_
  unfold rgC
  rw [List.length_take, List.length_drop]; omega
/-- The reference's way comes to the same. -/
theorem pav_gs {l : List Cls} (h : okT l) {i : Nat} {v : Rat} (hi : (outR (pavL l))[i]? = some v) : gsQ l i (i + 1) = v := by
  obtain ⟨hc, hf⟩ := pav_ok h
  obtain ⟨P, a, T, e, h1, h2, h3, h4⟩ := seg_at hc hi
  rw [hf] at e
  have hlen : l.length = P.length + a.length + T.length := by rw [e]; simp [Nat.add_assoc]
  refine Rat.le_antisymm (gsQ_le l i _ (by omega) fun f hf' => ?_) (Rat.le_trans ?_ (gsQ_ge l i (i + 1) P.length (by omega)))
  · refine Rat.le_trans (lsQ_le l f i _ (P.length + a.length - 1 - i) (by omega)) ?_
    rw [show i + (P.length + a.length - 1 - i) = P.length + a.length - 1 by omega]
    refine share_le (okT_tk (okT_drop h _) _) (rgC_ne (by omega) (by omega)) ?_
    have k := h3 f
    have e2 : rgC l f (P.length + a.length - 1) = (P ++ a).drop f := by
      unfold rgC
      rw [e, List.drop_append, List.take_append, List.length_drop]
      rw [show P.length + a.length - 1 + 1 - f - ((P ++ a).length - f) = 0 by simp; omega, List.take_zero, List.append_nil]
      exact List.take_of_length_le (by simp; omega)
    show dsum v (rgC l f (P.length + a.length - 1)) ≤ 0
    rw [e2]; exact k
  · have hp : ∀ t, i ≤ t → t < l.length → v ≤ shR l P.length t := fun t ht1 ht2 => by
      refine share_ge (okT_tk (okT_drop h _) _) (rgC_ne (by omega) ht2) ?_
      have e2 : rgC l P.length t = (a ++ T).take (t + 1 - P.length) := by
        unfold rgC
        rw [e, List.append_assoc, List.drop_left]
      show 0 ≤ dsum v (rgC l P.length t)
      rw [e2]; exact h4 _
    exact lsQ_ge l _ _ _ (hp i (Nat.le_refl _) (by omega)) (fun t ht => hp _ (by omega) (by omega))
end Go.Proofs.YtmnipggjjcmjkaaGreat
