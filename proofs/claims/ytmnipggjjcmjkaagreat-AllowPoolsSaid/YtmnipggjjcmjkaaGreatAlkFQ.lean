/-
  The reference's table of sums: a list for each number of places; its lists as the loops turn them; the blocks that bear them. No function of the program is walked here.
-/
import Derived.Test.YtmnipggjjcmjkaaGreatAlkCQ
set_option linter.unusedSimpArgs false
set_option linter.unusedVariables false
namespace Go.Proofs.YtmnipggjjcmjkaaGreat
open Go.RowKit Dg

/-- How often each sum up to most comes. -/
def wyL (P : List Int) (j most : Nat) : List Rat := (List.range (most + 1)).map fun (s : Nat) => ((cnt P j (s : Int) : Int) : Rat)
theorem wyL_len (P : List Int) (j most : Nat) : (wyL P j most).length = most + 1 := by simp [wyL]
theorem wyL_at {P : List Int} {j most s : Nat} (h : s ≤ most) : nthQ (wyL P j most) s = ((cnt P j (s : Int) : Int) : Rat) := by
  unfold nthQ wyL
  rw [List.getD_eq_getElem?_getD, List.getElem?_map, List.getElem?_range (by omega)]; rfl
/-- .. with one rank more, from u on. -/
def wzL (P : List Int) (r : Int) (k most u : Nat) : List Rat := (List.range (most + 1)).map fun (s : Nat) => if u ≤ s then ((cnt (r :: P) k (s : Int) : Int) : Rat) else ((cnt P k (s : Int) : Int) : Rat)
theorem wzL_len (P : List Int) (r : Int) (k most u : Nat) : (wzL P r k most u).length = most + 1 := by simp [wzL]
theorem wzL_at {P : List Int} {r : Int} {k most u s : Nat} (h : s ≤ most) (hu : s < u) : nthQ (wzL P r k most u) s = ((cnt P k (s : Int) : Int) : Rat) := by
  unfold nthQ wzL
  rw [List.getD_eq_getElem?_getD, List.getElem?_map, List.getElem?_range (by omega)]
  show (if u ≤ s then _ else _) = _
  rw [if_neg (by omega)]
theorem wzL_start (P : List Int) (r : Int) (k most : Nat) : wzL P r k most (most + 1) = wyL P k most := by
  unfold wzL wyL
  refine List.map_congr_left fun s hs => ?_
  rw [if_neg (by have := List.mem_range.1 hs; omega)]
theorem cnt_neg {P : List Int} (hP : ∀ x ∈ P, 0 ≤ x ∧ x ≤ 1000) (k : Nat) {s : Int} (h : s < 0) : cnt P k s = 0 := by
  refine List.count_eq_zero.2 fun hm => ?_
  have := sm_bd P hP k s hm
  omega
theorem wzL_end {P : List Int} (hP : ∀ x ∈ P, 0 ≤ x ∧ x ≤ 1000) {r : Int} {k most u : Nat} (h : (u : Int) ≤ r) : wzL P r (k + 1) most u = wyL (r :: P) (k + 1) most := by
  unfold wzL wyL
  refine List.map_congr_left fun s hs => ?_
  by_cases e : u ≤ s
  · rw [if_pos e]
  · rw [if_neg e, cnt_cons, cnt_neg hP k (show (s : Int) - r < 0 by omega)]; rfl
theorem wzL_skip {P : List Int} {r : Int} {k most u : Nat} (h : cnt P k ((u : Int) - r) = 0) : wzL P r (k + 1) most (u + 1) = wzL P r (k + 1) most u := by
  unfold wzL
  refine List.map_congr_left fun s hs => ?_
  by_cases e : u + 1 ≤ s
  · rw [if_pos e, if_pos (by omega)]
  · rw [if_neg e]
    by_cases e2 : u ≤ s
    · obtain rfl : s = u := by omega
      rw [if_pos e2, cnt_cons, h]; rfl
    · rw [if_neg e2]
theorem wzL_set {P : List Int} {r : Int} {k most u : Nat} (hu : u ≤ most) {x : Rat} (hx : x = ((cnt P (k + 1) (u : Int) : Int) : Rat) + ((cnt P k ((u : Int) - r) : Int) : Rat)) : (wzL P r (k + 1) most (u + 1)).set u x = wzL P r (k + 1) most u := by
  subst hx
  refine List.ext_getElem? fun s => ?_
  rw [List.getElem?_set]
  unfold wzL
  by_cases hs : s < most + 1
  · rw [List.getElem?_map, List.getElem?_map, List.getElem?_range hs]
    by_cases e : u = s
    · subst e
      rw [if_pos rfl, if_pos (by simpa using hs)]
      simp only [Option.map_some, Option.some.injEq]
      rw [if_pos (Nat.le_refl _), cnt_cons]
      rw [show ((cnt P (k + 1) (u : Int) + cnt P k ((u : Int) - r) : Nat) : Int) = (cnt P (k + 1) (u : Int) : Int) + (cnt P k ((u : Int) - r) : Int) by omega, Rat.intCast_add]
    · rw [if_neg e]
      simp only [Option.map_some, Option.some.injEq]
      by_cases h1 : u + 1 ≤ s
      · rw [if_pos h1, if_pos (by omega)]
      · rw [if_neg h1, if_neg (by omega)]
  · rw [List.getElem?_eq_none (by simp; omega), List.getElem?_eq_none (by simp; omega)]
    split
    · split
      · exfalso; rename_i a b; simp at b; omega
      · rfl
    · rfl
/-- What the loop adds up. -/
def alS (P : List Int) (m : Nat) (p : Int → Bool) : Nat → Nat
  | 0 => 0
  | s + 1 => alS P m p s + if p (s : Int) then cnt P m (s : Int) else 0
theorem filter_upto (L : List Int) (p : Int → Bool) : ∀ n : Nat, (∀ x ∈ L, 0 ≤ x) → L.countP (fun x => p x && decide (x < (n : Int))) = (match n with | 0 => 0 | k + 1 => L.countP (fun x => p x && decide (x < (k : Int))) + if p (k : Int) then L.count (k : Int) else 0)
  | 0, h => List.countP_eq_zero.2 fun x hx => by
    have := h x hx
    simp; intro _; omega
  | k + 1, h => by
    have e := countP_next (fun x => decide (x < (k : Int))) p (k : Int) (decide_eq_false (by omega)) L
    refine Eq.trans ?_ (Eq.trans e ?_)
    · refine List.countP_congr fun x _ => ?_
      have : (decide (x < ((k + 1 : Nat) : Int))) = (decide (x < (k : Int)) || decide (x = (k : Int))) := by
        by_cases h1 : x < (k : Int)
        · rw [decide_eq_true h1, decide_eq_true (show x < ((k + 1 : Nat) : Int) by omega)]; rfl
        · by_cases h2 : x = (k : Int)
          · rw [decide_eq_true (show x < ((k + 1 : Nat) : Int) by omega), decide_eq_true h2]; simp
          · rw [decide_eq_false (show ¬ x < ((k + 1 : Nat) : Int) by omega), decide_eq_false h1, decide_eq_false h2]; rfl
      rw [this, Bool.and_comm]
    · congr 1
      refine List.countP_congr fun x _ => ?_
      rw [Bool.and_comm]
theorem alS_eq {P : List Int} {m : Nat} (p : Int → Bool) (h : ∀ x ∈ sm P m, 0 ≤ x) : ∀ n : Nat, alS P m p n = (sm P m).countP (fun x => p x && decide (x < (n : Int)))
  | 0 => (filter_upto (sm P m) p 0 h).symm
  | n + 1 => by
    rw [filter_upto (sm P m) p (n + 1) h]
    show alS P m p n + _ = _
    rw [alS_eq p h n]; rfl
theorem alS_all {P : List Int} {m : Nat} (p : Int → Bool) (h : ∀ x ∈ sm P m, 0 ≤ x) {n : Nat} (hn : ∀ x ∈ sm P m, x < (n : Int)) : alS P m p n = (sm P m).countP p := by
  rw [alS_eq p h n]
  refine List.countP_congr fun x hx => ?_
  rw [decide_eq_true (hn x hx), Bool.and_true]
/-- The blocks of the table, but the one for k places. -/
def Fam (m : Nat) (bs : Nat → Nat) (F : Nat → List Rat) (k : Nat) (w : World) : Prop := ∀ j, j ≤ m → j ≠ k → VecR 36 3 RC w (bs j) (F j)
theorem famJ {m : Nat} {bs : Nat → Nat} {F : Nat → List Rat} (k : Nat) (w w' : World) (h : Fam m bs F k w) (hb : Below w.heap.size w w') : Fam m bs F k w' := fun j hj hn => (h j hj hn).mono RC.kept hb
theorem Fam.gr {m k : Nat} {bs : Nat → Nat} {F : Nat → List Rat} {w w' : World} {gs : List Nat} (h : Fam m bs F k w) (hG : Gr gs w w') (hn : ∀ j, j ≤ m → j ≠ k → bs j ∉ gs) (hk : KeepD w w') : Fam m bs F k w' := fun j hj hjk => (h j hj hjk).gr RC.kept hG (hn j hj hjk) hk
theorem Fam.lt {m : Nat} {bs : Nat → Nat} {F : Nat → List Rat} {w : World} (h : Fam m bs F (m + 1) w) (_ : 0 < 1) : bs m < w.heap.size := (h m (Nat.le_refl _) (by omega)).lt
/-- One block is taken out of the family; and put back. -/
theorem Fam.out {m k : Nat} {bs : Nat → Nat} {F : Nat → List Rat} {w : World} (h : Fam m bs F (m + 1) w) (hk : k ≤ m) : VecR 36 3 RC w (bs k) (F k) ∧ Fam m bs F k w := ⟨h k hk (by omega), fun j hj _ => h j hj (by omega)⟩
theorem Fam.back {m k : Nat} {bs : Nat → Nat} {F F' : Nat → List Rat} {w : World} (h : Fam m bs F k w) {L : List Rat} (hv : VecR 36 3 RC w (bs k) L) (he : ∀ j, j ≤ m → j ≠ k → F' j = F j) (hk : F' k = L) : Fam m bs F' (m + 1) w := fun j hj _ => by
  by_cases e : j = k
  · subst e; rw [hk]; exact hv
  · rw [he j hj e]; exact h j hj e
theorem Fam.congr {m k : Nat} {bs : Nat → Nat} {F F' : Nat → List Rat} {w : World} (h : Fam m bs F k w) (he : ∀ j, j ≤ m → F' j = F j) : Fam m bs F' k w := fun j hj hn => by rw [he j hj]; exact h j hj hn
/-- The table as the ranks P are in it; as r is being added, down to the places k. -/
def FU (P : List Int) (most : Nat) (j : Nat) : List Rat := wyL P j most
def FF (P : List Int) (r : Int) (most k : Nat) (j : Nat) : List Rat := if k < j then wyL (r :: P) j most else wyL P j most
theorem wyL_none {r : Int} {P : List Int} (most : Nat) : wyL (r :: P) 0 most = wyL P 0 most := by
  unfold wyL
  refine List.map_congr_left fun s _ => ?_
  rw [cnt_zero, cnt_zero]
theorem FF_start {P : List Int} {r : Int} {most m j : Nat} (h : j ≤ m) : FF P r most m j = FU P most j := if_neg (by omega)
theorem FF_end {P : List Int} {r : Int} {most j : Nat} : FU (r :: P) most j = FF P r most 0 j := by
  unfold FF
  split
  · rfl
  · obtain rfl : j = 0 := by omega
    exact wyL_none most
theorem FF_at {P : List Int} {r : Int} {most k : Nat} : FF P r most k k = wyL P k most := if_neg (by omega)
theorem FF_next {P : List Int} {r : Int} {most k j : Nat} (hk : 0 < k) (h : j ≠ k) : FF P r most (k - 1) j = FF P r most k j := by
  unfold FF
  by_cases e : k < j
  · rw [if_pos e, if_pos (by omega)]
  · rw [if_neg e, if_neg (by omega)]
theorem FF_here {P : List Int} {r : Int} {most k : Nat} (hk : 0 < k) : FF P r most (k - 1) k = wyL (r :: P) k most := if_pos (by omega)
theorem Fam.atP {P : List Int} {r : Int} {most m k k' : Nat} {bs : Nat → Nat} {w : World} (h : Fam m bs (FF P r most k) k' w) {j : Nat} (hm : j ≤ m) (hj : j ≤ k) (hn : j ≠ k') : VecR 36 3 RC w (bs j) (wyL P j most) := by
  have := h j hm hn
  unfold FF at this
  rwa [if_neg (by omega)] at this
theorem Fam.atN {P : List Int} {most m k' : Nat} {bs : Nat → Nat} {w : World} (h : Fam m bs (FU P most) k' w) {j : Nat} (hm : j ≤ m) (hn : j ≠ k') : VecR 36 3 RC w (bs j) (wyL P j most) := h j hm hn
/-- No rank yet. -/
theorem wyL_nil {most j : Nat} (h : j ≠ 0) : List.replicate (most + 1) (0 : Rat) = wyL [] j most := by
  obtain ⟨i, rfl⟩ : ∃ i, j = i + 1 := ⟨j - 1, by omega⟩
  refine List.ext_getElem? fun x => ?_
  unfold wyL
  rw [List.getElem?_map, List.getElem?_replicate]
  by_cases hx : x < most + 1
  · rw [List.getElem?_range hx, if_pos hx]; rfl
  · rw [if_neg hx, List.getElem?_eq_none (by simp; omega)]; rfl
theorem wyL_one {most : Nat} : (List.replicate (most + 1) (0 : Rat)).set 0 1 = wyL [] 0 most := by
  refine List.ext_getElem? fun x => ?_
  rw [List.getElem?_set]
  unfold wyL
  by_cases hx : x < most + 1
  · rw [List.getElem?_map, List.getElem?_range hx]
    by_cases e : 0 = x
    · subst e
      rw [if_pos rfl, if_pos (by simp)]; rfl
    · rw [if_neg e, List.getElem?_replicate, if_pos hx]
      simp only [Option.map_some, Option.some.injEq]
      rw [cnt_zero, if_neg (by omega)]; rfl
  · rw [if_neg (by omega), List.getElem?_replicate, if_neg hx, List.getElem?_eq_none (by simp; omega)]
/-- The steps of the loop over the sums, for places above 0. -/
theorem wz_end {P : List Int} (hP : ∀ x ∈ P, 0 ≤ x ∧ x ≤ 1000) {r : Int} {k most u : Nat} (hk : 0 < k) (h : (u : Int) ≤ r) : wzL P r k most u = wyL (r :: P) k most := by
  obtain ⟨i, rfl⟩ : ∃ i, k = i + 1 := ⟨k - 1, by omega⟩
  exact wzL_end hP h
theorem wz_skip {P : List Int} {r : Int} {k most s : Nat} {u : Int} (hk : 0 < k) (hu : (s : Int) - r = u) (h : (((cnt P (k - 1) u : Nat) : Int) : Rat) = 0) : wzL P r k most (s + 1) = wzL P r k most s := by
  obtain ⟨i, rfl⟩ : ∃ i, k = i + 1 := ⟨k - 1, by omega⟩
  subst hu
  have h' : ((cnt P i ((s : Int) - r) : Nat) : Int) = 0 := by exact_mod_cast h
  exact wzL_skip (by omega)
theorem wz_set {P : List Int} {r : Int} {k most s : Nat} {u : Int} (hk : 0 < k) (hs : s ≤ most) (hu : (s : Int) - r = u) : (wzL P r k most (s + 1)).set s (((cnt P k (s : Int) : Nat) : Int) + ((cnt P (k - 1) u : Nat) : Int)) = wzL P r k most s := by
  obtain ⟨i, rfl⟩ : ∃ i, k = i + 1 := ⟨k - 1, by omega⟩
  subst hu
  exact wzL_set hs rfl
/-- The ranks that are in the table. -/
def pR (R : List Int) (i : Nat) : List Int := (R.take i).reverse
theorem pR_zero (R : List Int) : pR R 0 = [] := by simp [pR]
theorem pR_next {R : List Int} {i : Nat} (h : i < R.length) {r : Int} (hr : nthI R i = r) : pR R (i + 1) = r :: pR R i := by
  unfold pR
  rw [List.take_add_one, nthI_some h, hr]; simp
theorem pR_bd {R : List Int} (h : ∀ x ∈ R, 0 ≤ x ∧ x ≤ 1000) (i : Nat) : ∀ x ∈ pR R i, 0 ≤ x ∧ x ≤ 1000 := fun x hx => h x (List.mem_of_mem_take (List.mem_reverse.1 hx))
theorem pR_len (R : List Int) (i : Nat) : (pR R i).length ≤ R.length := by unfold pR; rw [List.length_reverse, List.length_take]; omega
theorem cnt_sz {P : List Int} (h : P.length ≤ 20) (k : Nat) (s : Int) : SzQ 1 (((cnt P k s : Nat) : Int) : Rat) := by
  refine szQ_int ?_
  have h1 : cnt P k s ≤ (sm P k).length := List.count_le_length
  have h2 := sm_len P k
  have h3 : (2 : Nat) ^ P.length ≤ 2 ^ 20 := Nat.pow_le_pow_right (by decide) h
  have h4 : (2 : Nat) ^ 20 = 1048576 := by decide
  omega
theorem alS_sz {P : List Int} (h : P.length ≤ 20) (hP : ∀ x ∈ P, 0 ≤ x ∧ x ≤ 1000) (p : Int → Bool) (m n : Nat) : SzQ 1 (((alS P m p n : Nat) : Int) : Rat) := by
  refine szQ_int ?_
  have h1 : alS P m p n ≤ (sm P m).length := by
    rw [alS_eq p (fun x hx => (sm_bd P hP m x hx).1) n]
    exact List.countP_le_length
  have h2 := sm_len P m
  have h3 : (2 : Nat) ^ P.length ≤ 2 ^ 20 := Nat.pow_le_pow_right (by decide) h
  have h4 : (2 : Nat) ^ 20 = 1048576 := by decide
  omega
theorem sm_total : ∀ (l : List Int), (∀ x ∈ l, 0 ≤ x) → ∀ k, ∀ s ∈ sm l k, s ≤ sumI l
  | [], _, 0, s, h => by rw [sm_zero] at h; simp at h; subst h; exact Int.le_refl _
  | [], _, _ + 1, s, h => by cases h
  | r :: l, hl, 0, s, h => by
    rw [sm_zero] at h; simp at h; subst h
    have h0 := sm_total l (fun x hx => hl x (List.mem_cons_of_mem _ hx)) 0 0 (by rw [sm_zero]; simp)
    have := hl r (by simp)
    show 0 ≤ r + sumI l
    omega
  | r :: l, hl, k + 1, s, h => by
    have hr := hl r (by simp)
    have ih := sm_total l (fun x hx => hl x (List.mem_cons_of_mem _ hx))
    rw [sm_cons, List.mem_append] at h
    show s ≤ r + sumI l
    rcases h with h | h
    · have := ih _ s h; omega
    · obtain ⟨a, ha, rfl⟩ := List.mem_map.1 h
      have := ih _ a ha; omega
/-- What comes out. -/
theorem al_out {L : List Rat} {R : List Int} (hRR : R = rkT L L.length) (hB : ∀ x ∈ R, 0 ≤ x ∧ x ≤ 1000) {m most : Nat} {M F T : Int} (hM : M = (m : Int) * ((R.length : Int) + 1)) (ht : totS R m = T) (hm : m ≤ R.length) (hF : offI M T = F) (hmost : (most : Int) = (R.length : Int) * ((R.length : Int) + 1)) :
    (((alS (pR R R.length) m (farB M F) (most + 1) : Nat) : Int) : Rat) / (((alS (pR R R.length) m (fun _ => true) (most + 1) : Nat) : Int) : Rat) = alkQ R m ∧ (((alS (pR R R.length) m (fun _ => true) (most + 1) : Nat) : Int) : Rat) ≠ 0 := by
  have hp : (pR R R.length).Perm R := by unfold pR; rw [List.take_length]; exact List.reverse_perm R
  have h0 : ∀ x ∈ sm (pR R R.length) m, 0 ≤ x := fun x hx => (sm_bd _ (pR_bd hB _) m x hx).1
  have hsum : sumI R = (R.length : Int) * ((R.length : Int) + 1) := by
    have h1 := rk_sum L
    have h2 : R.length = L.length := by rw [hRR, rkT_len]
    rw [h2, hRR, rkT_map]; exact h1
  have hlt : ∀ x ∈ sm (pR R R.length) m, x < ((most + 1 : Nat) : Int) := fun x hx => by
    have h1 := sm_total _ (fun y hy => (pR_bd hB _ y hy).1) m x hx
    rw [sumI_perm hp, hsum, ← hmost] at h1
    omega
  have e1 : alS (pR R R.length) m (farB M F) (most + 1) = somK R m := by
    rw [alS_all _ h0 hlt, (sm_perm hp m).countP_eq]
    unfold somK
    rw [← totS_sum R m hm, ht, ← hM, hF]
  have e2 : alS (pR R R.length) m (fun _ => true) (most + 1) = allK R m := by
    rw [alS_all _ h0 hlt, (sm_perm hp m).countP_eq]
    unfold allK
    simp
  rw [e1, e2]
  refine ⟨rfl, fun h => ?_⟩
  have h1 := somK_pos hm
  have h2 := somK_le R m
  have h3 : ((allK R m : Nat) : Int) = 0 := by exact_mod_cast h
  omega
theorem rk_pos {L : List Rat} {R : List Int} (hRR : R = rkT L L.length) {x : Int} (hx : x ∈ R) : 1 ≤ x := by
  subst hRR
  rw [rkT_map] at hx
  obtain ⟨y, _, rfl⟩ := List.mem_map.1 hx
  have h := rnS_eq L y L.length (Nat.le_refl _)
  have hn : ∀ k, 1 ≤ rnS L y k := fun k => by
    induction k with
    | zero => exact Int.le_refl _
    | succ k ih => show 1 ≤ rnS L y k + max (1 + sgQ (y - nthQ L k)) 0; omega
  have h2 := hn L.length
  rw [h, List.take_length] at h2
  exact h2
/-- The slice of the table's slices. -/
def wyA (bs : Nat → Nat) (n1 len i : Nat) : Array Value := ((List.range n1).map fun k => if k < i then Value.slice (some ⟨bs k, 0, none⟩) len len else Value.slice none 0 0).toArray
theorem wyA_at {bs : Nat → Nat} {n1 len i k : Nat} (h : k < n1) (hi : k < i) : (wyA bs n1 len i)[k]? = some (.slice (some ⟨bs k, 0, none⟩) len len) := by
  unfold wyA
  rw [List.getElem?_toArray, List.getElem?_map, List.getElem?_range h]
  simp [hi]
theorem wyA_ex {bs : Nat → Nat} {n1 len i k : Nat} (h : k < n1) (hi : ¬ k < i) : (wyA bs n1 len i)[k]? = some (.slice none 0 0) := by
  unfold wyA
  rw [List.getElem?_toArray, List.getElem?_map, List.getElem?_range h]
  simp [hi]
theorem wyA_set {bs : Nat → Nat} {n1 len i : Nat} (h : i < n1) : (wyA bs n1 len i).setIfInBounds i (.slice (some ⟨bs i, 0, none⟩) len len) = wyA bs n1 len (i + 1) := by
  refine Array.ext_getElem? fun k => ?_
  rw [Array.getElem?_setIfInBounds]
  have hs : (wyA bs n1 len i).size = n1 := by simp [wyA]
  by_cases e : i = k
  · subst e
    rw [if_pos rfl, if_pos (by omega), wyA_at h (by omega)]
  · rw [if_neg e]
    by_cases hk : k < n1
    · by_cases h1 : k < i
      · rw [wyA_at hk h1, wyA_at hk (by omega)]
      · rw [wyA_ex hk h1, wyA_ex hk (by omega)]
    · rw [Array.getElem?_eq_none (by omega), Array.getElem?_eq_none (by simp [wyA]; omega)]
theorem wyA_made {base g n len : Nat} {bs : Nat → Nat} {T : TypeId} {w : World} (h : w.ownsRow base T 1 (.slice (some ⟨g, 0, none⟩) n n) n (madeCells #[Value.slice none 0 0] (n * 1)).toList) (hn : 0 < n) : Bx w g T (wyA bs n len 0) := by
  obtain ⟨h1, h2⟩ := h
  rcases h2 with ⟨e, _⟩ | ⟨g', cap, cur, hv, _, hg, _, _, hs, ht⟩
  · cases e
  · injection hv with e1 e2 e3
    injection e1 with e1
    injection e1 with e1 _
    subst e1 e3
    have e : cur = wyA bs n len 0 := by
      apply Array.toList_inj.1
      rw [List.take_of_length_le (by rw [Array.length_toList]; omega)] at ht
      rw [ht]
      refine List.ext_getElem? fun j => ?_
      by_cases hj : j < n
      · rw [made_at (by omega), Array.getElem?_toList, wyA_ex hj (by omega)]
        show some (#[Value.slice none 0 0][j % 1]!) = _
        rw [Nat.mod_one]; rfl
      · rw [List.getElem?_eq_none (by rw [Array.length_toList, size_madeCells]; omega), List.getElem?_eq_none (by simp [wyA]; omega)]
    rw [← e]; exact hg
/-- The slice of the slices. -/
def OutX (T : TypeId) (w : World) (g : Nat) (bs : Nat → Nat) (n1 len i : Nat) : Prop := Bx w g T (wyA bs n1 len i)
theorem outJ {T : TypeId} {bs : Nat → Nat} {n1 len i : Nat} (g : Nat) (w w' : World) (h : OutX T w g bs n1 len i) (hb : Below w.heap.size w w') : OutX T w' g bs n1 len i := Bx.mono h hb
theorem OutX.lt {T : TypeId} {w : World} {g : Nat} {bs : Nat → Nat} {n1 len i : Nat} (h : OutX T w g bs n1 len i) (_ : 0 < 1) : g < w.heap.size := Bx.lt h
theorem OutX.gr {T : TypeId} {w w' : World} {g : Nat} {bs : Nat → Nat} {n1 len i : Nat} {gs : List Nat} (h : OutX T w g bs n1 len i) (hG : Gr gs w w') (hn : g ∉ gs) : OutX T w' g bs n1 len i := hG.bx h hn
theorem OutX.at {T : TypeId} {w : World} {g : Nat} {bs : Nat → Nat} {n1 len i : Nat} (h : OutX T w g bs n1 len i) (k : Nat) (h1 : k < n1) (h2 : k < i) : w.cell? ⟨g, k, none⟩ = some (.slice (some ⟨bs k, 0, none⟩) len len) := Bx.at h k (wyA_at h1 h2)
/-- While the blocks are made. -/
def Mk (T : TypeId) (w : World) (g n1 len k : Nat) : Prop := ∃ bs : Nat → Nat, OutX T w g bs n1 len k ∧ (∀ j, j < k → g < bs j ∧ VecR 36 3 RC w (bs j) (List.replicate len 0)) ∧ ∀ i j, i < j → j < k → bs i < bs j
theorem wyA_congr {bs bs' : Nat → Nat} {n1 len i : Nat} (h : ∀ j, j < i → bs j = bs' j) : wyA bs n1 len i = wyA bs' n1 len i := by
  unfold wyA
  congr 1
  refine List.map_congr_left fun k _ => ?_
  split
  · rw [h k (by assumption)]
  · rfl
/-- One more: made in w1 (behind w), laid into the slice in w2. -/
theorem Mk.next {T : TypeId} {w w1 w2 : World} {g n1 len k : Nat} (h : Mk T w g n1 len k) (hk : k < n1) (hb : Below w.heap.size w w1) (hv : VecR 36 3 RC w1 w.heap.size (List.replicate len 0)) (hT : T ≠ 36) (hT2 : T ≠ 176 ∧ T ≠ 212)
    (hW : w2 = w1.setCell ⟨g, k, none⟩ (.slice (some ⟨w.heap.size, 0, none⟩) len len)) : Mk T w2 g n1 len (k + 1) := by
  obtain ⟨bs, h1, h2, h3⟩ := h
  have hG : Gr [g] w1 w2 := by rw [hW]; exact (Gr.refl _ _).set
  have h1' := Bx.mono h1 hb
  have hkd : KeepD w1 w2 := hG.keep ⟨⟨T, h1'.ty, hT2⟩, True.intro⟩
  have hlt : ∀ j, j < k → bs j < w.heap.size := fun j hj => (h2 j hj).2.lt
  have hg : g < w.heap.size := Bx.lt h1
  refine ⟨fun j => if j < k then bs j else w.heap.size, ?_, fun j hj => ?_, fun i j hij hj => ?_⟩
  · have e : wyA bs n1 len k = wyA (fun j => if j < k then bs j else w.heap.size) n1 len k := wyA_congr fun j hj => (if_pos hj).symm
    have hs := wyA_set (bs := fun j => if j < k then bs j else w.heap.size) (len := len) hk
    rw [if_neg (Nat.lt_irrefl k)] at hs
    unfold OutX
    rw [hW]
    exact Bx.set h1' k _ (by rw [e]; exact hs)
  · dsimp only
    by_cases e : j < k
    · obtain ⟨a, b⟩ := h2 j e
      rw [if_pos e]
      exact ⟨a, (b.mono RC.kept hb).gr RC.kept hG (notMem1 (by omega)) hkd⟩
    · rw [if_neg e]
      exact ⟨hg, hv.gr RC.kept hG (notMem1 (by omega)) hkd⟩
  · dsimp only
    by_cases e : j < k
    · rw [if_pos e, if_pos (by omega)]; exact h3 i j hij e
    · rw [if_neg e, if_pos (by omega)]; exact hlt i (by omega)
theorem bsLe {bs : Nat → Nat} {m : Nat} (h : ∀ i j, i < j → j < m + 1 → bs i < bs j) {j : Nat} (hj : j ≤ m) : bs j ≤ bs m := by
  by_cases e : j = m
  · rw [e]; exact Nat.le_refl _
  · exact Nat.le_of_lt (h j m (by omega) (by omega))
theorem bsNe {bs : Nat → Nat} {m : Nat} (h : ∀ i j, i < j → j < m + 1 → bs i < bs j) {i j : Nat} (hi : i ≤ m) (hj : j ≤ m) (hn : i ≠ j) : bs i ≠ bs j := by
  rcases Nat.lt_or_gt_of_ne hn with e | e
  · exact Nat.ne_of_lt (h i j e (by omega))
  · exact Nat.ne_of_gt (h j i e (by omega))
end Go.Proofs.YtmnipggjjcmjkaaGreat
