/-
  AllowHolds, the plain law: draws counted by an odometer.
-/
import Derived.Test.YtmnipggjjcmjkaaPkQntO
import Derived.Test.YtmnipggjjcmjkaaAlT1O
import Derived.Test.YtmnipggjjcmjkaaSame0O
import Derived.Test.YtmnipggjjcmjkaaPkAlBO
set_option linter.unusedSimpArgs false
set_option linter.unusedVariables false
namespace Go.Proofs.Ytmnipggjjcmjkaa
open Go Go.Proofs
def digs (N : Nat) : Nat → Nat → List Nat
  | 0, _ => []
  | m + 1, e => e % N :: digs N m (e / N)
def valN (N : Nat) : List Nat → Nat
  | [] => 0
  | d :: ds => d + N * valN N ds
theorem digs_len (N : Nat) : ∀ m e, (digs N m e).length = m
  | 0, _ => rfl
  | m + 1, e => by show (digs N m (e / N)).length + 1 = m + 1; rw [digs_len N m]
theorem digs_lt {N : Nat} (h : 0 < N) : ∀ m e, ∀ d ∈ digs N m e, d < N
  | 0, _, d, hd => by cases hd
  | m + 1, e, d, hd => by
    rcases List.mem_cons.1 hd with rfl | hd
    · exact Nat.mod_lt _ h
    · exact digs_lt h m _ d hd
theorem digs_val {N : Nat} : ∀ A : List Nat, (∀ d ∈ A, d < N) → digs N A.length (valN N A) = A
  | [], _ => rfl
  | d :: ds, h => by
    have hd : d < N := h d List.mem_cons_self
    show (d + N * valN N ds) % N :: digs N ds.length ((d + N * valN N ds) / N) = d :: ds
    rw [Nat.add_mul_mod_self_left, Nat.mod_eq_of_lt hd, Nat.add_mul_div_left _ _ (by omega), Nat.div_eq_of_lt hd, Nat.zero_add, digs_val ds fun x hx => h x (List.mem_cons_of_mem _ hx)]
theorem valN_lt {N : Nat} : ∀ A : List Nat, (∀ d ∈ A, d < N) → valN N A < N ^ A.length
  | [], _ => by show 0 < N ^ 0; rw [Nat.pow_zero]; omega
  | d :: ds, h => by
    have hd : d < N := h d List.mem_cons_self
    have ih := valN_lt ds fun x hx => h x (List.mem_cons_of_mem _ hx)
    show d + N * valN N ds < N ^ (ds.length + 1)
    rw [Nat.pow_succ, Nat.mul_comm (N ^ _) N]
    have : N * (valN N ds + 1) ≤ N * N ^ ds.length := Nat.mul_le_mul_left _ ih
    rw [Nat.mul_add, Nat.mul_one] at this
    omega
theorem valN_set (N x : Nat) : ∀ (A : List Nat) (k : Nat), (hk : k < A.length) → valN N (A.set k x) + N ^ k * A[k] = valN N A + N ^ k * x
  | [], k, hk => absurd hk (Nat.not_lt_zero _)
  | d :: ds, 0, _ => by
    show x + N * valN N ds + N ^ 0 * d = d + N * valN N ds + N ^ 0 * x
    rw [Nat.pow_zero]; omega
  | d :: ds, k + 1, hk => by
    have ih := valN_set N x ds k (by simpa using hk)
    show d + N * valN N (ds.set k x) + N ^ (k + 1) * ds[k]'(by simpa using hk) = d + N * valN N ds + N ^ (k + 1) * x
    rw [Nat.pow_succ, Nat.mul_comm (N ^ k) N, Nat.mul_assoc, Nat.mul_assoc, Nat.add_assoc, Nat.add_assoc, ← Nat.mul_add, ← Nat.mul_add, ih]
def dwL (L : List Rat) (A : List Nat) : List Rat := A.map (nthQ L)
theorem dwL_len (L : List Rat) (A : List Nat) : (dwL L A).length = A.length := by simp [dwL]
theorem atM_dw (L : List Rat) (A : List Nat) (q : Rat) : atM (dwL L A) q = A.countP fun d => decide (nthQ L d ≤ q) := by
  unfold atM dwL; rw [List.countP_map]; rfl
def cntD (g : Nat → Bool) (N m r : Nat) : Nat → Nat
  | 0 => 0
  | e + 1 => cntD g N m r e + if r ≤ (digs N m e).countP g then 1 else 0
def aK (g : Nat → Bool) : Nat → Nat
  | 0 => 0
  | d + 1 => aK g d + if g d then 1 else 0
theorem aK_succ (g : Nat → Bool) (d : Nat) : aK g (d + 1) = aK g d + if g d then 1 else 0 := rfl
theorem aK_le (g : Nat → Bool) : ∀ d, aK g d ≤ d
  | 0 => Nat.le_refl _
  | d + 1 => by have := aK_le g d; rw [aK_succ]; split <;> omega
theorem aK_count (g : Nat → Bool) : ∀ d, aK g d = (List.range d).countP g
  | 0 => rfl
  | d + 1 => by rw [List.range_succ, List.countP_append, ← aK_count g d, aK_succ]; simp [List.countP_cons]
theorem cnt_in (g : Nat → Bool) {N m r e : Nat} : ∀ d, d ≤ N → cntD g N (m + 1) r (N * e + d) = cntD g N (m + 1) r (N * e) + (aK g d * (if r - 1 ≤ (digs N m e).countP g then 1 else 0) + (d - aK g d) * (if r ≤ (digs N m e).countP g then 1 else 0))
  | 0, _ => by simp [aK]
  | d + 1, hd => by
    have ih := cnt_in g (N := N) (r := r) (m := m) (e := e) d (by omega)
    have e1 : digs N (m + 1) (N * e + d) = d :: digs N m e := by
      show (N * e + d) % N :: digs N m ((N * e + d) / N) = _
      rw [Nat.add_comm (N * e) d, Nat.add_mul_mod_self_left, Nat.mod_eq_of_lt (by omega), Nat.add_mul_div_left _ _ (by omega), Nat.div_eq_of_lt (by omega), Nat.zero_add]
    show cntD g N (m + 1) r (N * e + d) + (if r ≤ (digs N (m + 1) (N * e + d)).countP g then 1 else 0) = _
    rw [ih, e1, List.countP_cons]
    have hle := aK_le g d
    show _ = _ + ((aK g d + if g d then 1 else 0) * _ + (d + 1 - (aK g d + if g d then 1 else 0)) * _)
    generalize (digs N m e).countP g = c at *
    by_cases hg : g d = true
    · rw [if_pos hg, show d + 1 - (aK g d + 1) = d - aK g d by omega, Nat.add_mul, Nat.one_mul]
      by_cases h1 : r ≤ c + 1
      · rw [if_pos h1, if_pos (show r - 1 ≤ c by omega)]; omega
      · rw [if_neg h1, if_neg (show ¬ r - 1 ≤ c by omega)]; omega
    · rw [if_neg hg, show d + 1 - (aK g d + 0) = d - aK g d + 1 by omega, Nat.add_mul (d - aK g d), Nat.one_mul]
      simp only [Nat.add_zero]
      generalize (if r ≤ c then 1 else 0) = x
      omega
theorem cnt_out (g : Nat → Bool) {N m r : Nat} : ∀ e, cntD g N (m + 1) r (N * e) = aK g N * cntD g N m (r - 1) e + (N - aK g N) * cntD g N m r e
  | 0 => by simp [cntD]
  | e + 1 => by
    rw [Nat.mul_add, Nat.mul_one, cnt_in g N (Nat.le_refl _), cnt_out g e]
    show _ = _ * (cntD g N m (r - 1) e + _) + _ * (cntD g N m r e + _)
    rw [Nat.mul_add, Nat.mul_add]
    omega
theorem cnt_tail (g : Nat → Bool) {N : Nat} (hN : 0 < N) : ∀ m r, ((cntD g N m r (N ^ m) : Nat) : Rat) = tlQ (((aK g N : Nat) : Rat) / ((N : Nat) : Rat)) m r * ((N : Nat) : Rat) ^ m
  | 0, 0 => by rw [tlQ_zero]; show ((cntD g N 0 0 1 : Nat) : Rat) = 1 * 1; simp [cntD]
  | 0, r + 1 => by show ((cntD g N 0 (r + 1) 1 : Nat) : Rat) = 0 * 1; simp [cntD, digs]
  | m + 1, 0 => by
    have e : cntD g N (m + 1) 0 (N ^ (m + 1)) = aK g N * cntD g N m 0 (N ^ m) + (N - aK g N) * cntD g N m 0 (N ^ m) := by rw [Nat.pow_succ, Nat.mul_comm (N ^ m) N]; exact cnt_out g _
    have hle := aK_le g N
    have e2 : aK g N * cntD g N m 0 (N ^ m) + (N - aK g N) * cntD g N m 0 (N ^ m) = N * cntD g N m 0 (N ^ m) := by rw [← Nat.add_mul, show aK g N + (N - aK g N) = N by omega]
    rw [e, e2, Rat.natCast_mul, cnt_tail g hN m 0, tlQ_zero, tlQ_zero, Rat.pow_succ]
    grind
  | m + 1, r + 1 => by
    have e : cntD g N (m + 1) (r + 1) (N ^ (m + 1)) = aK g N * cntD g N m r (N ^ m) + (N - aK g N) * cntD g N m (r + 1) (N ^ m) := by rw [Nat.pow_succ, Nat.mul_comm (N ^ m) N]; exact cnt_out g _
    have hle := aK_le g N
    have hn : ((N : Nat) : Rat) ≠ 0 := fun e => by have : N = 0 := by exact_mod_cast e
                                                   omega
    have hsub : ((N - aK g N : Nat) : Rat) = ((N : Nat) : Rat) - ((aK g N : Nat) : Rat) := by
      have h : ((N - aK g N + aK g N : Nat) : Rat) = ((N : Nat) : Rat) := by rw [Nat.sub_add_cancel hle]
      rw [Rat.natCast_add] at h
      grind
    rw [e, Rat.natCast_add, Rat.natCast_mul, Rat.natCast_mul, cnt_tail g hN m r, cnt_tail g hN m (r + 1), hsub, Rat.pow_succ]
    show _ = (tlQ _ m (r + 1) * (1 - _) + tlQ _ m r * _) * _
    generalize ((aK g N : Nat) : Rat) = a at *
    generalize ((N : Nat) : Rat) = n at *
    generalize tlQ (a / n) m r = x
    generalize tlQ (a / n) m (r + 1) = y
    generalize n ^ m = z
    have h : a / n * n = a := Rat.div_mul_cancel hn
    grind
theorem qt_top {L : List Rat} {u : Rat} (h1 : 1 ≤ L.length) (h0 : 0 ≤ u) (hu : u ≤ 1) : (1 - u) * ((L.length : Int) : Rat) ≤ ((atM L (qtQ L u) : Nat) : Rat) := by
  by_cases ha : atM L (qtQ L u) < L.length
  · have hx : ¬ ordQ L (atM L (qtQ L u)) ≤ qtQ L u := fun c => absurd ((ordQ_le ha _).1 c) (by omega)
    have hl : ltM L (ordQ L (atM L (qtQ L u))) ≤ atM L (qtQ L u) := by
      have := ordQ_lt ha (ordQ L (atM L (qtQ L u)))
      have h2 : ¬ atM L (qtQ L u) + 1 ≤ ltM L (ordQ L (atM L (qtQ L u))) := fun c => Rat.lt_irrefl (this.2 c)
      omega
    obtain ⟨q0, q1⟩ := qt_same h1 hu
    obtain ⟨b1, b2, b3⟩ := (bqF_max (L := L) (nd := u * ((L.length : Int) : Rat)) L.length).2 q0
    rw [q1] at b3
    obtain ⟨i, hi, e⟩ := List.mem_iff_getElem.1 (ordQ_mem ha)
    have en : ¬ enQ L (u * ((L.length : Int) : Rat)) (ordQ L (atM L (qtQ L u))) := fun c => by
      have e3 : nthQ L i = L[i] := by have h := nthQ_some hi; rw [List.getElem?_eq_getElem hi] at h; exact (Option.some.inj h).symm
      have := b3 i hi (by rw [e3, e]; exact c)
      rw [e3, e] at this
      exact hx this
    unfold enQ at en
    rw [(ls_all L _).1] at en
    have h3 := Rat.not_le.1 en
    have h4 : ((ltM L (ordQ L (atM L (qtQ L u))) : Nat) : Rat) ≤ ((atM L (qtQ L u) : Nat) : Rat) := by exact_mod_cast hl
    have h5 : (((L.length : Int) - (ltM L (ordQ L (atM L (qtQ L u))) : Nat) : Int) : Rat) = ((L.length : Int) : Rat) - ((ltM L (ordQ L (atM L (qtQ L u))) : Nat) : Rat) := by rw [Rat.intCast_sub]; rfl
    grind
  · have h2 : ((L.length : Nat) : Rat) ≤ ((atM L (qtQ L u) : Nat) : Rat) := by exact_mod_cast Nat.not_lt.1 ha
    have h3 : (((L.length : Int) : Rat)) = ((L.length : Nat) : Rat) := rfl
    have h4 : 0 ≤ u * ((L.length : Int) : Rat) := Rat.mul_nonneg h0 (Rat.le_of_lt (len_pos h1))
    grind
def gQ (L : List Rat) (q : Rat) (d : Nat) : Bool := decide (nthQ L d ≤ q)
theorem aK_atM (L : List Rat) (q : Rat) : aK (gQ L q) L.length = atM L q := by
  rw [aK_count]
  unfold atM
  have h : L = (List.range L.length).map (nthQ L) := by
    apply List.ext_getElem
    · simp
    · intro i h1 h2
      have e := nthQ_some h1
      rw [List.getElem?_eq_getElem h1] at e
      rw [List.getElem_map, List.getElem_range]
      exact Option.some.inj e
  conv => rhs; rw [h, List.countP_map]
  rfl
theorem hold_step {L : List Rat} {q : Rat} {N m r e : Nat} (h1 : 1 ≤ r) (h2 : r ≤ m) : ordQ (dwL L (digs N m e)) (r - 1) ≤ q ↔ r ≤ (digs N m e).countP (gQ L q) := by
  rw [ordQ_le (by rw [dwL_len, digs_len]; omega), atM_dw, show r - 1 + 1 = r by omega]
  rfl
theorem hold_yes {L : List Rat} {q : Rat} {N m r e : Nat} (h1 : 1 ≤ r) (h2 : r ≤ m) (h : ordQ (dwL L (digs N m e)) (r - 1) ≤ q) : cntD (gQ L q) N m r (e + 1) = cntD (gQ L q) N m r e + 1 := by
  show _ + _ = _; rw [if_pos ((hold_step h1 h2).1 h)]
theorem hold_no {L : List Rat} {q : Rat} {N m r e : Nat} (h1 : 1 ≤ r) (h2 : r ≤ m) (h : ¬ ordQ (dwL L (digs N m e)) (r - 1) ≤ q) : cntD (gQ L q) N m r (e + 1) = cntD (gQ L q) N m r e := by
  show _ + _ = _; rw [if_neg (fun c => h ((hold_step h1 h2).2 c))]; rfl
theorem cntD_le (g : Nat → Bool) (N m r : Nat) : ∀ e, cntD g N m r e ≤ e
  | 0 => Nat.le_refl _
  | e + 1 => by have := cntD_le g N m r e; unfold cntD; split <;> omega
theorem hold_law {L : List Rat} {m r : Nat} {u c : Rat} (h1 : 1 ≤ L.length) (hu : 0 ≤ u ∧ u ≤ 1) (hE : rkEr m u c = 0) (hr : rkV m u c = (r : Int)) :
    c ≤ ((cntD (gQ L (qtQ L u)) L.length m r (L.length ^ m) : Nat) : Rat) / ((L.length ^ m : Nat) : Rat) := by
  have hp := len_pos h1
  have hn : ((L.length : Nat) : Rat) ≠ 0 := Rat.ne_of_gt hp
  have hc : c ≤ tlQ (1 - u) m r := by
    unfold rkEr at hE
    unfold rkV at hr
    by_cases h : rkWrong m u c
    · rw [if_pos h] at hE; cases hE
    · rw [if_neg h] at hE hr
      rw [Int.toNat_natCast] at hE hr
      by_cases h0 : rkF (1 - u) m c m = 0
      · rw [h0] at hE; cases hE
      · have e : rkF (1 - u) m c m = r := by omega
        have := rkF_tail (p := 1 - u) (c := c) (n := m) m (by omega)
        rwa [e] at this
  have hq := qt_top h1 hu.1 hu.2
  have hle : ((atM L (qtQ L u) : Nat) : Rat) ≤ ((L.length : Nat) : Rat) := by exact_mod_cast List.countP_le_length
  have hd : ((atM L (qtQ L u) : Nat) : Rat) / ((L.length : Nat) : Rat) * ((L.length : Nat) : Rat) = ((atM L (qtQ L u) : Nat) : Rat) := Rat.div_mul_cancel hn
  have h3 : (((L.length : Int) : Rat)) = ((L.length : Nat) : Rat) := rfl
  rw [h3] at hq hp
  have a1 : 1 - u ≤ ((atM L (qtQ L u) : Nat) : Rat) / ((L.length : Nat) : Rat) := (le_divQ hp).2 hq
  have a2 : ((atM L (qtQ L u) : Nat) : Rat) / ((L.length : Nat) : Rat) ≤ 1 := Rat.le_of_mul_le_mul_right (by rw [hd, Rat.one_mul]; exact hle) hp
  have hm := tlQ_mono (show 0 ≤ 1 - u by grind) a1 a2 m r
  have ct := cnt_tail (gQ L (qtQ L u)) (show 0 < L.length by omega) m r
  rw [aK_atM] at ct
  have hpw : (0 : Rat) < ((L.length ^ m : Nat) : Rat) := by exact_mod_cast Nat.pow_pos (show 0 < L.length by omega)
  rw [le_divQ hpw, ct]
  have e : ((L.length ^ m : Nat) : Rat) = ((L.length : Nat) : Rat) ^ m := by exact_mod_cast rfl
  rw [← e]
  exact Rat.mul_le_mul_of_nonneg_right (Rat.le_trans hc hm) (Rat.le_of_lt hpw)
end Go.Proofs.Ytmnipggjjcmjkaa
namespace Go.Proofs.Ytmnipggjjcmjkaa
open Go Go.Proofs
theorem int_info8 : (Try.prog.info? 3).map (fun i => (i.zero, i.size, i.bytes)) = some (some (.int .i64 0), 1, 8) := by kernel_rfl
theorem VecR.made1 {α : Type} {w : World} {g : Nat} {base : Nat} {T : TypeId} {n : Nat} {z0 : Value} {R : World → List Value → α → Prop} {x : α} (h : w.ownsRow base T 1 (.slice (some ⟨g, 0, none⟩) n n) n (madeCells #[z0] (n * 1)).toList) (hn : 0 < n) (hx : R w [z0] x) : VecR T 1 R w g (List.replicate n x) := by
 obtain ⟨h1, h2⟩ := h
 rcases h2 with ⟨e, _⟩ | ⟨g', cap, cur, hv, _, hg, _, _, hs, ht⟩
 ·cases e
 ·injection hv with e1 e2 e3
  injection e1 with e1
  injection e1 with e1 _
  subst e1 e3
  refine ⟨List.replicate n [z0], by simp, fun cs hcs => ?_, fun i cs y hc hy => ?_, ?_⟩
  ·rw [(List.mem_replicate.1 hcs).2]; rfl
  ·have h1 := List.mem_of_getElem? hc
   have h2 := List.mem_of_getElem? hy
   rw [(List.mem_replicate.1 h1).2, (List.mem_replicate.1 h2).2]; exact hx
  ·unfold Bx
   have e : cur = (List.replicate n [z0]).flatten.toArray := by
    apply Array.toList_inj.1
    rw [List.toList_toArray]
    have hl : (List.replicate n [z0]).flatten.length = n * 1 := by
     rw [flat_length (size := 1) _ (fun cs hcs => by rw [(List.mem_replicate.1 hcs).2]; rfl), List.length_replicate]
    rw [List.take_of_length_le (by rw [Array.length_toList]; omega)] at ht
    rw [ht]
    refine List.ext_getElem? fun j => ?_
    by_cases hj : j < n * 1
    ·rw [made_at hj]
     have hq : (List.replicate n [z0])[j]? = some [z0] := by rw [List.getElem?_replicate, if_pos (by omega)]
     have := flat_get (size := 1) _ (fun cs hcs => by rw [(List.mem_replicate.1 hcs).2]; rfl) j 0 _ hq (by decide)
     rw [Nat.mul_one, Nat.add_zero] at this
     rw [this]
     show some (#[z0][j % 1]!) = _
     rw [Nat.mod_one]; rfl
    ·rw [List.getElem?_eq_none (by rw [Array.length_toList, size_madeCells]; omega), List.getElem?_eq_none (by rw [hl]; omega)]
   rw [← e]; exact hg
theorem vecI_at {w : World} {T : TypeId} {g : Nat} {L : List Int} {i : Nat} (h : VecR T 1 IC w g L) (hi : i < L.length) : w.cell? ⟨g, i, none⟩ = some (.int .i64 (nthI L i)) ∧ g < w.heap.size := by
 obtain ⟨cs, _, hr, hat⟩ := h.cell (nthI_some hi)
 subst hr
 have := hat 0 _ rfl
 rw [Nat.mul_one, Nat.add_zero] at this
 exact ⟨this, h.lt⟩
theorem valN_digs {N : Nat} : ∀ m e, valN N (digs N m e) = e % N ^ m
 | 0, e => by show 0 = e % N ^ 0; rw [Nat.pow_zero, Nat.mod_one]
 | m + 1, e => by
  show e % N + N * valN N (digs N m (e / N)) = e % N ^ (m + 1)
  rw [valN_digs m (e / N), Nat.pow_succ, Nat.mul_comm (N ^ m) N, Nat.mod_mul]
def dgI (N m e : Nat) : List Int := (digs N m e).map fun d : Nat => (d : Int)
def zkL (D : List Nat) (k : Nat) : List Nat := List.replicate k 0 ++ D.drop k
def zkI (N m e k : Nat) : List Int := (zkL (digs N m e) k).map fun d : Nat => (d : Int)
def icI (N m e k : Nat) : List Int := (zkI N m e k).set k (nthI (zkI N m e k) k + 1)
theorem zkL_len {D : List Nat} {k : Nat} (h : k ≤ D.length) : (zkL D k).length = D.length := by unfold zkL; rw [List.length_append, List.length_replicate, List.length_drop]; omega
theorem dgI_len (N m e : Nat) : (dgI N m e).length = m := by unfold dgI; rw [List.length_map, digs_len]
theorem zkI_len {N m e k : Nat} (h : k ≤ m) : (zkI N m e k).length = m := by unfold zkI; rw [List.length_map, zkL_len (by rw [digs_len]; exact h), digs_len]
theorem icI_len {N m e k : Nat} (h : k ≤ m) : (icI N m e k).length = m := by unfold icI; rw [List.length_set, zkI_len h]
theorem dgI_zero (N m : Nat) : List.replicate m (0 : Int) = dgI N m 0 := by
 have h : ∀ m, digs N m 0 = List.replicate m 0 := fun m => by
  induction m with
  | zero => rfl
  | succ m ih => show 0 % N :: digs N m (0 / N) = _; rw [Nat.zero_mod, Nat.zero_div, ih]; rfl
 unfold dgI; rw [h]; simp
theorem ic_eq {N m e k d : Nat} (hd : nthI (zkI N m e k) k = (d : Int)) : (zkI N m e k).set k ((d : Int) + 1) = icI N m e k := by unfold icI; rw [hd]
theorem dgI_at {N m e i : Nat} (hN : 0 < N) (h : i < m) : ∃ d : Nat, nthI (dgI N m e) i = (d : Int) ∧ d < N := by
 have hl : i < (digs N m e).length := by rw [digs_len]; exact h
 refine ⟨(digs N m e)[i], ?_, digs_lt hN m e _ (List.getElem_mem hl)⟩
 unfold dgI nthI
 rw [List.getD_eq_getElem?_getD, List.getElem?_map, List.getElem?_eq_getElem hl]; rfl
theorem zkL_at {D : List Nat} {k : Nat} (h : k < D.length) : (zkL D k)[k]? = some D[k] := by
 unfold zkL
 rw [List.getElem?_append_right (by simp), List.length_replicate, Nat.sub_self, List.getElem?_drop, Nat.add_zero, List.getElem?_eq_getElem h]
theorem zkI_at {N m e k : Nat} (hN : 0 < N) (h : k < m) : ∃ d : Nat, nthI (zkI N m e k) k = (d : Int) ∧ d < N := by
 have hl : k < (digs N m e).length := by rw [digs_len]; exact h
 refine ⟨(digs N m e)[k], ?_, digs_lt hN m e _ (List.getElem_mem hl)⟩
 unfold zkI nthI
 rw [List.getD_eq_getElem?_getD, List.getElem?_map, zkL_at hl]; rfl
theorem icI_at {N m e k : Nat} (h : k < m) : nthI (icI N m e k) k = nthI (zkI N m e k) k + 1 := by
 have hl : k < (zkI N m e k).length := by rw [zkI_len (by omega)]; exact h
 conv => lhs; unfold icI nthI
 rw [List.getD_eq_getElem?_getD, List.getElem?_set_self hl]; rfl
theorem zkL_set {D : List Nat} {k : Nat} (h : k < D.length) : (zkL D k).set k 0 = zkL D (k + 1) := by
 refine List.ext_getElem? fun i => ?_
 rw [List.getElem?_set]
 unfold zkL
 by_cases e : k = i
 ·subst e
  rw [if_pos rfl, if_pos (by simp; omega), List.getElem?_append_left (by simp), List.getElem?_replicate, if_pos (by omega)]
 ·rw [if_neg e]
  by_cases h1 : i < k
  ·rw [List.getElem?_append_left (by simpa using h1), List.getElem?_append_left (by simp; omega), List.getElem?_replicate, List.getElem?_replicate, if_pos h1, if_pos (by omega)]
  ·rw [List.getElem?_append_right (by simp; omega), List.getElem?_append_right (by simp; omega), List.length_replicate, List.length_replicate, List.getElem?_drop, List.getElem?_drop, show k + (i - k) = k + 1 + (i - (k + 1)) by omega]
theorem zkI_next {N m e k : Nat} (h : k < m) : (icI N m e k).set k 0 = zkI N m e (k + 1) := by
 unfold icI
 rw [List.set_set]
 unfold zkI
 rw [← zkL_set (by rw [digs_len]; exact h), List.map_set]; rfl
def cyP (N m e k : Nat) : Prop := valN N (zkL (digs N m e) k) + N ^ k = valN N (digs N m e) + 1
theorem cyP_zero (N m e : Nat) : cyP N m e 0 := by
 show valN N (List.replicate 0 0 ++ (digs N m e).drop 0) + N ^ 0 = _
 rw [Nat.pow_zero]; rfl
theorem cy_set {N m e k x d : Nat} (h : k < m) (hd : nthI (zkI N m e k) k = (d : Int)) : (zkL (digs N m e) k)[k]? = some d ∧ valN N ((zkL (digs N m e) k).set k x) + N ^ k * d = valN N (zkL (digs N m e) k) + N ^ k * x := by
 have hl : k < (digs N m e).length := by rw [digs_len]; exact h
 have hk : k < (zkL (digs N m e) k).length := by rw [zkL_len (by omega)]; exact hl
 have e1 := zkL_at hl
 have e2 : (digs N m e)[k] = d := by
  unfold zkI nthI at hd
  rw [List.getD_eq_getElem?_getD, List.getElem?_map, e1] at hd
  exact Int.ofNat_inj.1 hd
 rw [e2] at e1
 have e3 : (zkL (digs N m e) k)[k] = d := by rw [List.getElem?_eq_getElem hk] at e1; exact Option.some.inj e1
 have := valN_set N x (zkL (digs N m e) k) k hk
 rw [e3] at this
 exact ⟨e1, this⟩
theorem cyP_next {N m e k d : Nat} (h : k < m) (hd : nthI (zkI N m e k) k = (d : Int)) (hN : d + 1 = N) (hc : cyP N m e k) : cyP N m e (k + 1) := by
 obtain ⟨-, e1⟩ := cy_set (x := 0) h hd
 unfold cyP at *
 rw [zkL_set (by rw [digs_len]; exact h)] at e1
 have e2 : N ^ (k + 1) = N ^ k * d + N ^ k := by rw [Nat.pow_succ, ← Nat.mul_succ, Nat.succ_eq_add_one, hN]
 rw [e2]
 omega
theorem cy_step {N m e k d : Nat} (h : k < m) (he : e < N ^ m) (hd : nthI (zkI N m e k) k = (d : Int)) (hN : d + 1 < N) (hc : cyP N m e k) : e + 1 < N ^ m ∧ icI N m e k = dgI N m (e + 1) := by
 obtain ⟨e0, e1⟩ := cy_set (x := d + 1) h hd
 unfold cyP at hc
 rw [valN_digs, Nat.mod_eq_of_lt he] at hc
 have hv : valN N ((zkL (digs N m e) k).set k (d + 1)) = e + 1 := by
  rw [Nat.mul_add, Nat.mul_one] at e1; omega
 have hl : ((zkL (digs N m e) k).set k (d + 1)).length = m := by rw [List.length_set, zkL_len (by rw [digs_len]; omega), digs_len]
 have hA : ∀ x ∈ (zkL (digs N m e) k).set k (d + 1), x < N := fun x hx => by
  rcases List.mem_or_eq_of_mem_set hx with hx | rfl
  ·unfold zkL at hx
   rcases List.mem_append.1 hx with hx | hx
   ·rw [(List.mem_replicate.1 hx).2]; omega
   ·exact digs_lt (by omega) m e _ (List.mem_of_mem_drop hx)
  ·exact hN
 have h1 := valN_lt _ hA
 have h2 := digs_val _ hA
 rw [hv, hl] at h1 h2
 refine ⟨h1, ?_⟩
 unfold dgI icI
 rw [h2, hd, List.map_set]; rfl
theorem cy_end {N m e : Nat} (he : e < N ^ m) (hc : cyP N m e m) : e + 1 = N ^ m := by
 unfold cyP at hc
 rw [valN_digs, Nat.mod_eq_of_lt he] at hc
 omega
def dwK (L : List Rat) (N m e k : Nat) : List Rat := ((digs N m e).take k).map (nthQ L)
theorem dwK_len (L : List Rat) {N m e k : Nat} (h : k ≤ m) : (dwK L N m e k).length = k := by unfold dwK; rw [List.length_map, List.length_take, digs_len]; omega
theorem dwK_next {L : List Rat} {N m e k d : Nat} (h : k < m) (hd : nthI (dgI N m e) k = (d : Int)) : dwK L N m e (k + 1) = dwK L N m e k ++ [nthQ L d] := by
 have hl : k < (digs N m e).length := by rw [digs_len]; exact h
 have e2 : (digs N m e)[k] = d := by
  unfold dgI nthI at hd
  rw [List.getD_eq_getElem?_getD, List.getElem?_map, List.getElem?_eq_getElem hl] at hd
  exact Int.ofNat_inj.1 hd
 unfold dwK
 rw [List.take_add_one, List.getElem?_eq_getElem hl, e2, List.map_append]; rfl
theorem dwK_all (L : List Rat) (N m e : Nat) : dwK L N m e m = dwL L (digs N m e) := by
 unfold dwK dwL; rw [List.take_of_length_le (by rw [digs_len]; exact Nat.le_refl _)]
theorem dwL_sz {L : List Rat} {K N m e : Nat} (hN : N = L.length) (h0 : 0 < N) (hz : ∀ i, i < L.length → SzQ K (nthQ L i)) : ∀ i, i < (dwL L (digs N m e)).length → SzQ K (nthQ (dwL L (digs N m e)) i) := fun i hi => by
 have hi2 : i < (digs N m e).length := by rw [dwL_len] at hi; exact hi
 have e1 : nthQ (dwL L (digs N m e)) i = nthQ L (digs N m e)[i] := by
  conv => lhs; unfold dwL nthQ
  rw [List.getD_eq_getElem?_getD, List.getElem?_map, List.getElem?_eq_getElem hi2]; rfl
 rw [e1]
 exact hz _ (hN ▸ digs_lt h0 m e _ (List.getElem_mem hi2))
end Go.Proofs.Ytmnipggjjcmjkaa
