/-
  What the law on fits makes of its bytes: classes, chances that do not fall, whether the shares fall. No function of the program is walked here.
-/
import Derived.Test.YtmnipggjjcmjkaaPav1
import Derived.Test.YtmnipggjjcmjkaaAlY
set_option linter.unusedSimpArgs false
set_option linter.unusedVariables false
namespace Go.Proofs.Ytmnipggjjcmjkaa
open Go.RowKit Dg

/-- Two bytes of plain data; one byte. -/
def U2C (_ : World) (cs : List Value) (x : Int × Int) : Prop := cs = [.int .u8 x.1, .int .u8 x.2]
theorem U2C.kept : Kept U2C := fun _ _ _ _ h _ => h
def W8C (_ : World) (cs : List Value) (x : Int) : Prop := cs = [.int .u8 x]
theorem W8C.kept : Kept W8C := fun _ _ _ _ h _ => h
theorem rowU2_at {w : World} {v : Value} {L : List (Int × Int)} {i : Nat} (h : RowsI 2 U2C w v L) (hi : i < L.length) : ∃ b o c, v = .slice (some ⟨b, o, none⟩) L.length c ∧ w.cell? ⟨b, o + i * 2, none⟩ = some (.int .u8 (clAt L i).1) ∧ w.cell? ⟨b, o + i * 2 + 1, none⟩ = some (.int .u8 (clAt L i).2) ∧ b < w.heap.size := by
  obtain ⟨b', o', c', cs, hv, _, hat, rfl⟩ := h.get (clAt_some hi)
  exact ⟨_, _, _, hv, hat 0 _ rfl, hat 1 _ rfl, cell_lt (hat 0 _ rfl)⟩
theorem rowW8_at {w : World} {v : Value} {L : List Int} {i : Nat} (h : RowsI 1 W8C w v L) (hi : i < L.length) : ∃ b o c, v = .slice (some ⟨b, o, none⟩) L.length c ∧ w.cell? ⟨b, o + i, none⟩ = some (.int .u8 (nthI L i)) ∧ b < w.heap.size := by
  obtain ⟨b', o', c', cs, hv, _, hat, rfl⟩ := h.get (nthI_some hi)
  have := hat 0 _ rfl
  rw [Nat.mul_one, Nat.add_zero] at this
  exact ⟨_, _, _, hv, this, cell_lt this⟩

/-- The classes of the first k pairs, at most six. -/
def fitC (x : Int × Int) : Cls := (1 + x.1 % 10, x.2 % (1 + x.1 % 10 + 1))
def fitA (l : List (Int × Int)) (k : Nat) : List Cls := ((l.take 6).take k).map fitC
theorem fitA_yes {l : List (Int × Int)} {k : Nat} (h : k < l.length) (h6 : k < 6) {a b n m : Int} (ha : (clAt l k).1 = a) (hb : (clAt l k).2 = b) (hn : 1 + a % 10 = n) (hm : b % (n + 1) = m) : fitA l (k + 1) = fitA l k ++ [(n, m)] := by
  unfold fitA
  have e : k < (l.take 6).length := by rw [List.length_take]; omega
  rw [List.take_succ_eq_append_getElem e, List.map_append]
  have : (l.take 6)[k] = clAt l k := by
    have h1 := clAt_some h
    rw [List.getElem?_eq_getElem h] at h1
    injection h1 with h1
    rw [List.getElem_take, h1]
  rw [this]
  simp only [List.map_cons, List.map_nil, fitC, ha, hb, hn, hm]
theorem fitA_no {l : List (Int × Int)} {k : Nat} (h6 : ¬ k < 6) : fitA l (k + 1) = fitA l k := by
  unfold fitA
  have e : (l.take 6).length ≤ 6 := by rw [List.length_take]; omega
  rw [List.take_of_length_le (l := l.take 6) (i := k + 1) (by omega), List.take_of_length_le (l := l.take 6) (i := k) (by omega)]
theorem fitA_len (l : List (Int × Int)) (k : Nat) : (fitA l k).length ≤ k ∧ (fitA l k).length ≤ 6 := by
  unfold fitA
  rw [List.length_map, List.length_take, List.length_take]; omega
theorem fitA_pos {l : List (Int × Int)} (h : 0 < l.length) : 0 < (fitA l l.length).length := by
  unfold fitA
  rw [List.length_map, List.length_take, List.length_take]; omega
theorem fitA_ok {l : List (Int × Int)} (hl : ∀ x ∈ l, (0 ≤ x.1 ∧ x.1 ≤ 255) ∧ (0 ≤ x.2 ∧ x.2 ≤ 255)) (k : Nat) : ∀ c ∈ fitA l k, ClOk c ∧ c.1 ≤ 10 := fun c hc => by
  obtain ⟨x, hx, rfl⟩ := List.mem_map.1 hc
  have := hl x (List.mem_of_mem_take (List.mem_of_mem_take hx))
  have m1 := Int.emod_nonneg x.2 (show 1 + x.1 % 10 + 1 ≠ 0 by omega)
  have m2 := Int.emod_lt_of_pos x.2 (show 0 < 1 + x.1 % 10 + 1 by omega)
  unfold ClOk
  show (1 ≤ 1 + x.1 % 10 ∧ 1 + x.1 % 10 ≤ 64 ∧ 0 ≤ x.2 % (1 + x.1 % 10 + 1) ∧ x.2 % (1 + x.1 % 10 + 1) ≤ 1 + x.1 % 10) ∧ 1 + x.1 % 10 ≤ 10
  omega

/-- The chances that do not fall. -/
def othI (O : List Int) (k : Nat) : Int := if k < O.length then nthI O k else 0
theorem othI_in {O : List Int} {k : Nat} (h : k < O.length) : othI O k = nthI O k := if_pos h
theorem othI_out {O : List Int} {k : Nat} (h : ¬ k < O.length) : othI O k = 0 := if_neg h
theorem othI_bd {O : List Int} (hO : ∀ x ∈ O, 0 ≤ x ∧ x ≤ 255) (k : Nat) : 0 ≤ othI O k ∧ othI O k ≤ 255 := by
  unfold othI
  split
  · rename_i h; exact hO _ (List.mem_of_getElem? (nthI_some h))
  · omega
def ownV (O : List Int) (k : Nat) : Rat := ((othI O k : Int) : Rat) / ((255 : Int) : Rat)
def ownY (O : List Int) : Nat → Rat
  | 0 => ownV O 0
  | k + 1 => if ownV O (k + 1) < ownY O k then ownY O k else ownV O (k + 1)
def ownK (O : List Int) (k : Nat) : List Rat := (List.range k).map (ownY O)
theorem ownK_len (O : List Int) (k : Nat) : (ownK O k).length = k := by simp [ownK]
theorem ownK_at {O : List Int} {k i : Nat} (h : i < k) : nthQ (ownK O k) i = ownY O i := by
  unfold nthQ ownK
  rw [List.getD_eq_getElem?_getD, List.getElem?_map, List.getElem?_range h]; rfl
theorem ownK_succ (O : List Int) (k : Nat) : ownK O (k + 1) = ownK O k ++ [ownY O k] := by unfold ownK; rw [List.range_succ, List.map_append]; rfl
theorem ownK_first {O : List Int} {k : Nat} (h : ¬ 0 < k) : ownK O (k + 1) = ownK O k ++ [ownV O k] := by
  obtain rfl : k = 0 := by omega
  exact ownK_succ O 0
theorem ownK_kept {O : List Int} {k : Nat} (h : 0 < k) (hl : ownV O k < nthQ (ownK O k) (k - 1)) : ownK O (k + 1) = ownK O k ++ [nthQ (ownK O k) (k - 1)] := by
  obtain ⟨j, rfl⟩ : ∃ j, k = j + 1 := ⟨k - 1, by omega⟩
  rw [Nat.add_sub_cancel] at hl ⊢
  rw [ownK_at (by omega)] at hl ⊢
  rw [ownK_succ O (j + 1)]
  congr 2
  show (if ownV O (j + 1) < ownY O j then ownY O j else ownV O (j + 1)) = _
  rw [if_pos hl]
theorem ownK_new {O : List Int} {k : Nat} (h : 0 < k) (hl : ¬ ownV O k < nthQ (ownK O k) (k - 1)) : ownK O (k + 1) = ownK O k ++ [ownV O k] := by
  obtain ⟨j, rfl⟩ : ∃ j, k = j + 1 := ⟨k - 1, by omega⟩
  rw [Nat.add_sub_cancel] at hl
  rw [ownK_at (by omega)] at hl
  rw [ownK_succ O (j + 1)]
  congr 2
  show (if ownV O (j + 1) < ownY O j then ownY O j else ownV O (j + 1)) = _
  rw [if_neg hl]
theorem ownV_sz {O : List Int} (hO : ∀ x ∈ O, 0 ≤ x ∧ x ≤ 255) (k : Nat) : SzQ 1 (ownV O k) := szQ_frac (by have := othI_bd hO k; omega) (by decide) (by decide)
theorem ownY_sz {O : List Int} (hO : ∀ x ∈ O, 0 ≤ x ∧ x ≤ 255) : ∀ k, SzQ 1 (ownY O k)
  | 0 => ownV_sz hO 0
  | k + 1 => by
    unfold ownY
    split
    · exact ownY_sz hO k
    · exact ownV_sz hO (k + 1)
theorem ownK_sz {O : List Int} (hO : ∀ x ∈ O, 0 ≤ x ∧ x ≤ 255) (k i : Nat) (h : i < (ownK O k).length) : SzQ 1 (nthQ (ownK O k) i) := by
  rw [ownK_len] at h
  rw [ownK_at h]; exact ownY_sz hO i
theorem nthQ_getElem? {L : List Rat} {i : Nat} {x : Rat} (h : L[i]? = some x) : nthQ L i = x := by unfold nthQ; rw [List.getD_eq_getElem?_getD, h]; rfl
theorem ownK_up (O : List Int) (k : Nat) : upI (ownK O k) := fun i x y hx hy => by
  have h1 := (List.getElem?_eq_some_iff.1 hx).1
  have h2 := (List.getElem?_eq_some_iff.1 hy).1
  rw [ownK_len] at h1 h2
  rw [← nthQ_getElem? hx, ← nthQ_getElem? hy, ownK_at h1, ownK_at h2]
  show ownY O i ≤ (if ownV O (i + 1) < ownY O i then ownY O i else ownV O (i + 1))
  split
  · exact Rat.le_refl
  · rename_i h; exact Rat.not_lt.1 h

/-- The shares; whether the first k of them do not fall. -/
def shK (A : List Cls) (k : Nat) : List Rat := (List.range k).map fun i => shQ (clAt A i)
theorem shK_len (A : List Cls) (k : Nat) : (shK A k).length = k := by simp [shK]
theorem shK_at {A : List Cls} {k i : Nat} (h : i < k) : nthQ (shK A k) i = shQ (clAt A i) := by
  unfold nthQ shK
  rw [List.getD_eq_getElem?_getD, List.getElem?_map, List.getElem?_range h]; rfl
theorem shK_next {A : List Cls} {k : Nat} {t f : Int} (ht : (clAt A k).1 = t) (hf : (clAt A k).2 = f) : shK A (k + 1) = shK A k ++ [(f : Rat) / (t : Rat)] := by unfold shK; rw [List.range_succ, List.map_append]; subst ht hf; rfl
theorem shK_sz {A : List Cls} (hA : ∀ c ∈ A, ClOk c) {k : Nat} (hk : k ≤ A.length) (i : Nat) (h : i < (shK A k).length) : SzQ 1 (nthQ (shK A k) i) := by
  rw [shK_len] at h
  rw [shK_at h]
  have := hA _ (List.mem_of_getElem? (clAt_some (show i < A.length by omega)))
  unfold ClOk at this
  exact szQ_frac (by omega) (by omega) (by omega)
def upT (A : List Cls) : Nat → Bool
  | 0 => true
  | k + 1 => upT A k && (k == 0 || !decide (shQ (clAt A k) < shQ (clAt A (k - 1))))
theorem upT_no {A : List Cls} {k : Nat} (h : upT A k = false) : upT A (k + 1) = false := by show (upT A k && _) = false; rw [h]; rfl
theorem upT_zero {A : List Cls} {k : Nat} (h : k = 0) : upT A (k + 1) = true := by subst h; rfl
theorem upT_yes {A : List Cls} {k : Nat} {t f : Int} (ht : (clAt A k).1 = t) (hf : (clAt A k).2 = f) (h : upT A k = true) (h0 : 0 < k) (hl : ¬ (f : Rat) / (t : Rat) < nthQ (shK A k) (k - 1)) : upT A (k + 1) = true := by
  subst ht hf
  rw [shK_at (by omega)] at hl
  show (upT A k && (k == 0 || !decide (shQ (clAt A k) < shQ (clAt A (k - 1))))) = true
  rw [h, decide_eq_false (show ¬ shQ (clAt A k) < shQ (clAt A (k - 1)) from hl)]; simp
theorem upT_fall {A : List Cls} {k : Nat} {t f : Int} (ht : (clAt A k).1 = t) (hf : (clAt A k).2 = f) (h0 : 0 < k) (hl : (f : Rat) / (t : Rat) < nthQ (shK A k) (k - 1)) : upT A (k + 1) = false := by
  subst ht hf
  rw [shK_at (by omega)] at hl
  show (upT A k && (k == 0 || !decide (shQ (clAt A k) < shQ (clAt A (k - 1))))) = false
  rw [decide_eq_true (show shQ (clAt A k) < shQ (clAt A (k - 1)) from hl)]
  have : (k == 0) = false := by simp; omega
  rw [this]; simp
theorem map_at {A : List Cls} {i : Nat} {x : Rat} (h : (A.map shQ)[i]? = some x) : shQ (clAt A i) = x := by
  rw [List.getElem?_map] at h
  obtain ⟨c, hc, rfl⟩ := Option.map_eq_some_iff.1 h
  unfold clAt
  rw [List.getD_eq_getElem?_getD, hc]; rfl
theorem upT_iff (A : List Cls) : ∀ k, k ≤ A.length → (upT A k = true ↔ ∀ i, i + 1 < k → ¬ shQ (clAt A (i + 1)) < shQ (clAt A i))
  | 0, _ => ⟨fun _ i h => by omega, fun _ => rfl⟩
  | k + 1, hk => by
    have ih := upT_iff A k (by omega)
    show (upT A k && (k == 0 || !decide (shQ (clAt A k) < shQ (clAt A (k - 1))))) = true ↔ _
    rw [Bool.and_eq_true, ih]
    constructor
    · rintro ⟨h1, h2⟩ i hi
      by_cases e : i + 1 < k
      · exact h1 i e
      · obtain rfl : k = i + 1 := by omega
        simpa using h2
    · intro h
      refine ⟨fun i hi => h i (by omega), ?_⟩
      by_cases e : k = 0
      · subst e; rfl
      · have := h (k - 1) (by omega)
        rw [show k - 1 + 1 = k by omega] at this
        rw [decide_eq_false this]; simp
theorem upT_up (A : List Cls) : upT A A.length = true ↔ upI (A.map shQ) := by
  rw [upT_iff A A.length (Nat.le_refl _)]
  constructor
  · intro h i x y hx hy
    have h2 := (List.getElem?_eq_some_iff.1 hy).1
    rw [List.length_map] at h2
    rw [← map_at hx, ← map_at hy]
    exact Rat.not_lt.1 (h i h2)
  · intro h i hi
    have a := h i _ _ (List.getElem?_eq_getElem (show i < (A.map shQ).length by rw [List.length_map]; omega)) (List.getElem?_eq_getElem (show i + 1 < (A.map shQ).length by rw [List.length_map]; omega))
    rw [← map_at (List.getElem?_eq_getElem (show i < (A.map shQ).length by rw [List.length_map]; omega)), ← map_at (List.getElem?_eq_getElem (show i + 1 < (A.map shQ).length by rw [List.length_map]; omega))] at a
    exact Rat.not_lt.2 a
theorem okT_of {A : List Cls} (h : ∀ c ∈ A, ClOk c) : okT A := fun c hc => by have := h c hc; unfold ClOk at this; omega
/-- All that the law asks of the chances. -/
theorem fit_all {A : List Cls} (hA : ∀ c ∈ A, ClOk c) (O : List Int) {X : List Rat} (hX : outR (pavL A) = X) {best m : Rat} (hb : mfL A X = best) (hm : mfL A (ownK O A.length) = m) :
    X.length = A.length ∧ (∀ i, 0 < i → i < X.length → ¬ nthQ X i < nthQ X (i - 1)) ∧ ¬ m < best ∧ decide (best = 0) = upT A A.length := by
  obtain ⟨h1, h2, h3, h4⟩ := pav_fits (okT_of hA)
  rw [hX] at h1 h2 h3 h4
  rw [hb] at h3 h4
  refine ⟨h1, fun i hi hl => ?_, ?_, ?_⟩
  · obtain ⟨j, rfl⟩ : ∃ j, i = j + 1 := ⟨i - 1, by omega⟩
    rw [Nat.add_sub_cancel]
    exact Rat.not_lt.2 (h2 j _ _ (nthQ_some (by omega)) (nthQ_some hl))
  · have := h3 (ownK O A.length) (ownK_len _ _) (ownK_up _ _)
    rw [hm] at this
    exact Rat.not_lt.2 this
  · cases h : upT A A.length
    · exact decide_eq_false fun e => by rw [(upT_up A).2 (h4.2 e)] at h; cases h
    · exact decide_eq_true (h4.1 ((upT_up A).1 h))
theorem outR_sz {A : List Cls} (hA : ∀ c ∈ A, ClOk c) (h16 : A.length ≤ 16) (i : Nat) (h : i < (outR (pavL A)).length) : SzQ 1 (nthQ (outR (pavL A)) i) := by
  obtain ⟨hc, hf⟩ := pav_ok (okT_of hA)
  have key : ∀ s : List (List Cls), (∀ a ∈ s, SzQ 1 (shQ (sumC a))) → ∀ x ∈ outR s, SzQ 1 x := by
    intro s
    induction s with
    | nil => intro _ x hx; simp [outR] at hx
    | cons a s ih =>
      intro h x hx
      rcases List.mem_append.1 hx with hx | hx
      · exact ih (fun b hb => h b (by simp [hb])) x hx
      · rw [(List.mem_replicate.1 hx).2]; exact h a (by simp)
  refine key _ (fun a ha => ?_) _ (List.mem_of_getElem? (nthQ_some h))
  have hne : a ≠ [] := by
    have : ∀ s : List (List Cls), chain s → ∀ a ∈ s, a ≠ [] := by
      intro s
      induction s with
      | nil => intro _ a ha; simp at ha
      | cons b s ih =>
        intro hc a ha
        rcases List.mem_cons.1 ha with rfl | ha
        · exact hc.1.1
        · exact ih hc.2.2 a ha
    exact this _ hc a ha
  have b := seg_bd h16 hA hf ha hne
  exact szQ_frac (by omega) (by omega) (by omega)
end Go.Proofs.Ytmnipggjjcmjkaa
