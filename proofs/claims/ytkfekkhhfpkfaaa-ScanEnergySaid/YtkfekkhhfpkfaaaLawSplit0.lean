/-
  Law 07: ScanSplit: layers of which one is divided, or whose impedances are multiplied: what becomes of their echoes.
-/
import Derived.Test.YtkfekkhhfpkfaaaPkStubA
import Derived.Test.YtkfekkhhfpkfaaaPkTab
import Derived.Test.YtkfekkhhfpkfaaaOwn2
set_option linter.unusedSimpArgs false
set_option linter.unusedVariables false
namespace Go.Proofs.Ytkfekkhhfpkfaaa
open Go.RowKit Dg

/-- The layers that a list of layers becomes: layer k is divided, its front part is f of it. -/
def cutL (f : Rat) (l : List Lay) (k : Nat) : List Lay := l.take k ++ ((layAt l k).1, (layAt l k).2.1 * f, (layAt l k).2.2) :: ((layAt l k).1, (layAt l k).2.1 - (layAt l k).2.1 * f, (layAt l k).2.2) :: l.drop (k + 1)
/-- .. all impedances are multiplied. -/
def loudL (c : Rat) (l : List Lay) : List Lay := l.map fun x => (x.1 * c, x.2.1, x.2.2)
theorem cutL_length (f : Rat) (l : List Lay) (k : Nat) (hk : k < l.length) : (cutL f l k).length = l.length + 1 := by
  simp [cutL]; omega
section
variable {f c : Rat} {l : List Lay} {k : Nat}
theorem cut_lt (hk : k < l.length) {j : Nat} (hj : j < k) : layAt (cutL f l k) j = layAt l j := by
  unfold layAt cutL
  rw [List.getElem?_append_left (by rw [List.length_take]; omega), List.getElem?_take_of_lt hj]
theorem cut_at (hk : k < l.length) : layAt (cutL f l k) k = ((layAt l k).1, (layAt l k).2.1 * f, (layAt l k).2.2) := by
  conv => lhs; unfold layAt cutL
  rw [List.getElem?_append_right (by rw [List.length_take]; omega), List.length_take, show k - min k l.length = 0 by omega]; rfl
theorem cut_next (hk : k < l.length) : layAt (cutL f l k) (k + 1) = ((layAt l k).1, (layAt l k).2.1 - (layAt l k).2.1 * f, (layAt l k).2.2) := by
  conv => lhs; unfold layAt cutL
  rw [List.getElem?_append_right (by rw [List.length_take]; omega), List.length_take, show k + 1 - min k l.length = 1 by omega]; rfl
theorem cut_gt (hk : k < l.length) {j : Nat} (hj : k < j) : layAt (cutL f l k) (j + 1) = layAt l j := by
  conv => lhs; unfold layAt cutL
  rw [List.getElem?_append_right (by rw [List.length_take]; omega), List.length_take, show j + 1 - min k l.length = (j - k - 1) + 2 by omega]
  show (l.drop (k + 1))[j - k - 1]?.getD _ = _
  rw [List.getElem?_drop, show k + 1 + (j - k - 1) = j by omega]; rfl
theorem tm_cut_le (hk : k < l.length) : ∀ m, m ≤ k → tmQ (cutL f l k) m = tmQ l m
  | 0, _ => rfl
  | m + 1, hm => by
    show tmQ _ m + _ = tmQ l m + _
    rw [tm_cut_le hk m (by omega), cut_lt hk (by omega)]
theorem tm_cut_gt (hk : k < l.length) : ∀ m, k < m → tmQ (cutL f l k) (m + 1) = tmQ l m
  | 0, hm => absurd hm (Nat.not_lt_zero k)
  | m + 1, hm => by
    by_cases e : m = k
    · subst e
      show (tmQ _ m + _) + _ = tmQ l m + _
      rw [tm_cut_le hk m (Nat.le_refl _), cut_at hk, cut_next hk]
      show tmQ l m + ((layAt l m).2.1 * f + (layAt l m).2.1 * f) / (layAt l m).2.2 + ((layAt l m).2.1 - (layAt l m).2.1 * f + ((layAt l m).2.1 - (layAt l m).2.1 * f)) / (layAt l m).2.2 = tmQ l m + ((layAt l m).2.1 + (layAt l m).2.1) / (layAt l m).2.2
      generalize (layAt l m).2.1 = t
      generalize (layAt l m).2.2 = s
      grind
    · show tmQ _ (m + 1) + _ = tmQ l m + _
      rw [tm_cut_gt hk m (by omega), cut_gt hk (by omega)]
theorem rf_cut_lt (hk : k < l.length) {j : Nat} (hj : j < k) : rfQ (cutL f l k) j = rfQ l j := by
  unfold rfQ
  rw [cut_lt hk hj]
  by_cases e : j + 1 = k
  · subst e; rw [cut_at hk]
  · rw [cut_lt hk (by omega)]
theorem rf_cut_at (hk : k < l.length) : rfQ (cutL f l k) k = 0 := by
  unfold rfQ
  rw [cut_at hk, cut_next hk]
  show ((layAt l k).1 - (layAt l k).1) / _ = 0
  grind
theorem rf_cut_gt (hk : k < l.length) {j : Nat} (hj : k ≤ j) : rfQ (cutL f l k) (j + 1) = rfQ l j := by
  unfold rfQ
  rw [cut_gt hk (show k < j + 1 by omega)]
  by_cases e : k = j
  · subst e; rw [cut_next hk]
  · rw [cut_gt hk (show k < j by omega)]
theorem lf_cut_le (hk : k < l.length) : ∀ m, m ≤ k → lfQ (cutL f l k) m = lfQ l m
  | 0, _ => rfl
  | m + 1, hm => by
    show lfQ _ m * _ = lfQ l m * _
    rw [lf_cut_le hk m (by omega), rf_cut_lt hk (by omega)]
theorem lf_cut_gt (hk : k < l.length) : ∀ m, k ≤ m → lfQ (cutL f l k) (m + 1) = lfQ l m
  | 0, hm => by
    obtain rfl : k = 0 := by omega
    show 1 * (1 - rfQ _ 0 * rfQ _ 0) = 1
    rw [rf_cut_at hk]; decide +kernel
  | m + 1, hm => by
    by_cases e : k = m + 1
    · show lfQ _ (m + 1) * _ = lfQ l (m + 1)
      rw [← e, lf_cut_le hk k (Nat.le_refl _), rf_cut_at hk]
      grind
    · show lfQ _ (m + 1) * _ = lfQ l m * _
      rw [lf_cut_gt hk m (by omega), rf_cut_gt hk (by omega)]
theorem loud_at (k : Nat) : layAt (loudL c l) k = ((layAt l k).1 * c, (layAt l k).2.1, (layAt l k).2.2) := by
  unfold layAt loudL
  rw [List.getElem?_map]
  cases l[k]? with
  | none => show ((0 : Rat), (0 : Rat), (0 : Rat)) = ((0 : Rat) * c, 0, 0); rw [Rat.zero_mul]
  | some x => rfl
theorem tm_loud : ∀ m, tmQ (loudL c l) m = tmQ l m
  | 0 => rfl
  | m + 1 => by
    show tmQ _ m + _ = tmQ l m + _
    rw [tm_loud m, loud_at]
theorem rf_loud (hc : c ≠ 0) (j : Nat) : rfQ (loudL c l) j = rfQ l j := by
  unfold rfQ
  rw [loud_at, loud_at]
  show ((layAt l (j + 1)).1 * c - (layAt l j).1 * c) / ((layAt l (j + 1)).1 * c + (layAt l j).1 * c) = _
  generalize (layAt l (j + 1)).1 = a
  generalize (layAt l j).1 = b
  by_cases h : a + b = 0
  · rw [h, show a * c + b * c = 0 by grind, Rat.div_def, Rat.div_def, Rat.inv_zero, Rat.mul_zero, Rat.mul_zero]
  · have : a * c + b * c ≠ 0 := fun e => by
      have e2 : (a + b) * c = 0 := by grind
      rcases Rat.mul_eq_zero.1 e2 with e3 | e3
      · exact h e3
      · exact hc e3
    grind
theorem lf_loud (hc : c ≠ 0) : ∀ m, lfQ (loudL c l) m = lfQ l m
  | 0 => rfl
  | m + 1 => by
    show lfQ _ m * _ = lfQ l m * _
    rw [lf_loud hc m, rf_loud hc]
theorem tm_lt (k : Nat) (h : 0 < (layAt l k).2.1) (h' : 0 < (layAt l k).2.2) : tmQ l k < tmQ l (k + 1) := by
  show tmQ l k < tmQ l k + _
  have : 0 < ((layAt l k).2.1 + (layAt l k).2.1) / (layAt l k).2.2 := by
    rw [Rat.lt_div_iff h']; grind
  grind
end

/-- The divided list, layer by layer. -/
def cutJ (f : Rat) (l : List Lay) (k : Nat) : Nat → List Lay
  | 0 => []
  | j + 1 => if j = k then (cutJ f l k j ++ [((layAt l j).1, (layAt l j).2.1 * f, (layAt l j).2.2)]) ++ [((layAt l j).1, (layAt l j).2.1 - (layAt l j).2.1 * f, (layAt l j).2.2)] else cutJ f l k j ++ [((layAt l j).1, (layAt l j).2.1, (layAt l j).2.2)]
theorem cutJ_at {f : Rat} {l : List Lay} {k j : Nat} (h : j = k) : cutJ f l k (j + 1) = (cutJ f l k j ++ [((layAt l j).1, (layAt l j).2.1 * f, (layAt l j).2.2)]) ++ [((layAt l j).1, (layAt l j).2.1 - (layAt l j).2.1 * f, (layAt l j).2.2)] := if_pos h
theorem cutJ_off {f : Rat} {l : List Lay} {k j : Nat} (h : ¬ j = k) : cutJ f l k (j + 1) = cutJ f l k j ++ [((layAt l j).1, (layAt l j).2.1, (layAt l j).2.2)] := if_neg h
def loudJ (c : Rat) (l : List Lay) : Nat → List Lay
  | 0 => []
  | j + 1 => loudJ c l j ++ [((layAt l j).1 * c, (layAt l j).2.1, (layAt l j).2.2)]
theorem take_lay {l : List Lay} {j : Nat} (h : j < l.length) : l.take (j + 1) = l.take j ++ [layAt l j] := by
  rw [List.take_add_one, List.getElem?_eq_getElem h]
  unfold layAt
  rw [List.getElem?_eq_getElem h]; rfl
theorem cutJ_le (f : Rat) (l : List Lay) (k : Nat) : ∀ j, j ≤ k → j ≤ l.length → cutJ f l k j = l.take j
  | 0, _, _ => by simp [cutJ]
  | j + 1, h, hl => by rw [cutJ_off (by omega), cutJ_le f l k j (by omega) (by omega), take_lay (by omega)]
theorem cutJ_gt (f : Rat) (l : List Lay) (k : Nat) (hk : k < l.length) : ∀ d, k + 1 + d ≤ l.length → cutJ f l k (k + 1 + d) = l.take k ++ ((layAt l k).1, (layAt l k).2.1 * f, (layAt l k).2.2) :: ((layAt l k).1, (layAt l k).2.1 - (layAt l k).2.1 * f, (layAt l k).2.2) :: (l.drop (k + 1)).take d
  | 0, h => by rw [Nat.add_zero, cutJ_at rfl, cutJ_le f l k k (Nat.le_refl _) (by omega)]; simp
  | d + 1, h => by
    rw [show k + 1 + (d + 1) = (k + 1 + d) + 1 by omega, cutJ_off (by omega), cutJ_gt f l k hk d (by omega)]
    have e : (l.drop (k + 1)).take (d + 1) = (l.drop (k + 1)).take d ++ [layAt l (k + 1 + d)] := by
      have h1 : d < (l.drop (k + 1)).length := by rw [List.length_drop]; omega
      have e2 : (l.drop (k + 1))[d]? = l[k + 1 + d]? := by rw [List.getElem?_drop]
      rw [List.take_add_one, e2]
      unfold layAt
      rw [List.getElem?_eq_getElem (show k + 1 + d < l.length by omega)]; rfl
    rw [e]; simp
theorem cutJ_all {f : Rat} {l : List Lay} {k : Nat} (hk : k < l.length) : cutJ f l k l.length = cutL f l k := by
  have := cutJ_gt f l k hk (l.length - (k + 1)) (by omega)
  rw [show k + 1 + (l.length - (k + 1)) = l.length by omega] at this
  rw [this, List.take_of_length_le (l := l.drop (k + 1)) (by rw [List.length_drop]; omega)]; rfl
theorem loudJ_map {c : Rat} {l : List Lay} : ∀ j, j ≤ l.length → loudJ c l j = loudL c (l.take j)
  | 0, _ => by simp [loudJ, loudL]
  | j + 1, h => by
    show loudJ c l j ++ _ = _
    rw [loudJ_map j (by omega), take_lay (by omega)]
    simp [loudL]
theorem loudJ_all {c : Rat} {l : List Lay} : loudJ c l l.length = loudL c l := by rw [loudJ_map _ (Nat.le_refl _), List.take_length]
theorem cutJ_len {f : Rat} {l : List Lay} {k : Nat} : ∀ j, (cutJ f l k j).length ≤ j + 1 ∧ (j ≤ k → (cutJ f l k j).length ≤ j)
  | 0 => ⟨by simp [cutJ], fun _ => by simp [cutJ]⟩
  | j + 1 => by
    have ih := cutJ_len (f := f) (l := l) (k := k) j
    by_cases e : j = k
    · rw [cutJ_at e]
      have := ih.2 (by omega)
      refine ⟨by simp; omega, fun h => by omega⟩
    · rw [cutJ_off e]
      by_cases e2 : j ≤ k
      · have := ih.2 e2
        exact ⟨by simp; omega, fun _ => by simp; omega⟩
      · exact ⟨by simp; omega, fun h => by omega⟩
theorem loudJ_len {c : Rat} {l : List Lay} : ∀ j, (loudJ c l j).length = j
  | 0 => rfl
  | j + 1 => by show (loudJ c l j ++ _).length = _; rw [List.length_append, loudJ_len j]; rfl
theorem lay_some {l : List Lay} {i : Nat} (h : i < l.length) : l[i]? = some (layAt l i) := by
  unfold layAt
  rw [List.getElem?_eq_getElem h]; rfl
theorem lay_sz_at {B : Nat} {l : List Lay} (hz : ∀ x ∈ l, LaySz B x) (i : Nat) (hi : i < l.length) : LaySz B (layAt l i) := hz _ (List.mem_of_getElem? (lay_some hi))
theorem lay_sz1 {B : Nat} {l : List Lay} (hz : ∀ x ∈ l, LaySz B x) (i : Nat) (hi : i < l.length) : SzQ B (layAt l i).1 := (lay_sz_at hz i hi).1
theorem lay_sz2 {B : Nat} {l : List Lay} (hz : ∀ x ∈ l, LaySz B x) (i : Nat) (hi : i < l.length) : SzQ B (layAt l i).2.1 := (lay_sz_at hz i hi).2.1
theorem lay_sz3 {B : Nat} {l : List Lay} (hz : ∀ x ∈ l, LaySz B x) (i : Nat) (hi : i < l.length) : SzQ B (layAt l i).2.2 := (lay_sz_at hz i hi).2.2
theorem lay_pos_at {l : List Lay} (h : l.all layPos = true) (i : Nat) (hi : i < l.length) : 0 < (layAt l i).1 ∧ 0 < (layAt l i).2.1 ∧ 0 < (layAt l i).2.2 := by
  have := List.all_eq_true.1 h _ (List.mem_of_getElem? (lay_some hi))
  simpa [layPos] using this
theorem rowLP_at {w : World} {U : TypeId} {b o n c : Nat} {L : List Lay} {i : Nat} (h : Rows 9 U (C3 PC) w (.slice (some ⟨b, o, none⟩) n c) L) (hi : i < L.length) :
    ∃ g1 a1 n1 c1 A1 N1 D1 g2 a2 n2 c2 A2 N2 D2 g3 a3 n3 c3 A3 N3 D3, w.cell? ⟨b, o + i * 9, none⟩ = some (.bool g1) ∧ w.cell? ⟨b, o + i * 9 + 1, none⟩ = some (.slice a1 n1 c1) ∧ w.cell? ⟨b, o + i * 9 + 2, none⟩ = some (.slice A1 N1 D1)
      ∧ w.cell? ⟨b, o + i * 9 + 3, none⟩ = some (.bool g2) ∧ w.cell? ⟨b, o + i * 9 + 4, none⟩ = some (.slice a2 n2 c2) ∧ w.cell? ⟨b, o + i * 9 + 5, none⟩ = some (.slice A2 N2 D2)
      ∧ w.cell? ⟨b, o + i * 9 + 6, none⟩ = some (.bool g3) ∧ w.cell? ⟨b, o + i * 9 + 7, none⟩ = some (.slice a3 n3 c3) ∧ w.cell? ⟨b, o + i * 9 + 8, none⟩ = some (.slice A3 N3 D3)
      ∧ PV w (.agg #[.bool g1, .slice a1 n1 c1, .slice A1 N1 D1]) (layAt L i).1 ∧ PV w (.agg #[.bool g2, .slice a2 n2 c2, .slice A2 N2 D2]) (layAt L i).2.1 ∧ PV w (.agg #[.bool g3, .slice a3 n3 c3, .slice A3 N3 D3]) (layAt L i).2.2 ∧ b < w.heap.size := by
  obtain ⟨b', o', c', cs, hv, _, hat, hc⟩ := h.get (lay_some hi)
  obtain ⟨e, rfl⟩ := sliceE hv
  injection e with e
  injection e with e1 e2
  subst e1 e2
  obtain ⟨g1, a1, n1, c1, A1, N1, D1, g2, a2, n2, c2, A2, N2, D2, g3, a3, n3, c3, A3, N3, D3, rfl, p1, p2, p3⟩ := hc.openP
  exact ⟨_, _, _, _, _, _, _, _, _, _, _, _, _, _, _, _, _, _, _, _, _, hat 0 _ rfl, hat 1 _ rfl, hat 2 _ rfl, hat 3 _ rfl, hat 4 _ rfl, hat 5 _ rfl, hat 6 _ rfl, hat 7 _ rfl, hat 8 _ rfl, p1, p2, p3, cell_lt (hat 0 _ rfl)⟩
theorem ta_echo {l : List Lay} {n i : Nat} (h : i < n) : taQ (echoQ l n) i = tmQ l (i + 1) ∧ vaQ (echoQ l n) i = lfQ l i * rfQ l i := by
  have e : stpAt (echoQ l n) i = (tmQ l (i + 1), lfQ l i * rfQ l i) := by
    unfold stpAt echoQ
    rw [List.getD_eq_getElem?_getD, List.getElem?_map, List.getElem?_range h]; rfl
  unfold taQ vaQ
  rw [e]; exact ⟨rfl, rfl⟩
/-- What ScanSplit compares. -/
theorem split_same {f c : Rat} {l : List Lay} {k : Nat} (hk : k < l.length) (hc : c ≠ 0) {X U V : List Stp} (hX : echoQ l (l.length - 1) = X) (hU : echoQ (cutL f l k) l.length = U) (hV : echoQ (loudL c l) (l.length - 1) = V) :
    (∀ i, i + 1 < l.length → ∀ n, n = (if k ≤ i then i + 1 else i) → taQ U n = taQ X i ∧ vaQ U n = vaQ X i) ∧ (∀ i, i + 1 < l.length → vaQ V i = vaQ X i ∧ taQ V i = taQ X i) ∧ vaQ U k = 0 := by
  subst hX hU hV
  refine ⟨fun i hi n hn => ?_, fun i hi => ?_, ?_⟩
  · have a := ta_echo (l := l) (n := l.length - 1) (i := i) (by omega)
    have b := ta_echo (l := cutL f l k) (n := l.length) (i := n) (by subst hn; split <;> omega)
    rw [a.1, a.2, b.1, b.2]
    subst hn
    split
    · rename_i h
      exact ⟨tm_cut_gt hk _ (by omega), by rw [lf_cut_gt hk _ h, rf_cut_gt hk h]⟩
    · rename_i h
      exact ⟨tm_cut_le hk _ (by omega), by rw [lf_cut_le hk _ (by omega), rf_cut_lt hk (by omega)]⟩
  · have a := ta_echo (l := l) (n := l.length - 1) (i := i) (by omega)
    have b := ta_echo (l := loudL c l) (n := l.length - 1) (i := i) (by omega)
    rw [a.1, a.2, b.1, b.2, tm_loud, lf_loud hc, rf_loud hc]
    exact ⟨rfl, rfl⟩
  · have b := ta_echo (l := cutL f l k) (n := l.length) (i := k) hk
    rw [b.2, rf_cut_at hk]; grind
theorem split_up {l : List Lay} (hp : l.all layPos = true) {X : List Stp} (hX : echoQ l (l.length - 1) = X) {i : Nat} (h1 : 1 ≤ i) (hi : i + 1 < l.length) : ¬ taQ X i ≤ taQ X (i - 1) := by
  subst hX
  obtain ⟨i, rfl⟩ : ∃ j, i = j + 1 := ⟨i - 1, by omega⟩
  rw [Nat.add_sub_cancel, (ta_echo (by omega)).1, (ta_echo (by omega)).1]
  have p := lay_pos_at hp (i + 1) (by omega)
  exact Rat.not_le.2 (tm_lt (i + 1) p.2.1 p.2.2)
theorem mem_cut {f : Rat} {l : List Lay} {k : Nat} (hk : k < l.length) {x : Lay} (h : x ∈ cutL f l k) : x ∈ l ∨ x = ((layAt l k).1, (layAt l k).2.1 * f, (layAt l k).2.2) ∨ x = ((layAt l k).1, (layAt l k).2.1 - (layAt l k).2.1 * f, (layAt l k).2.2) := by
  unfold cutL at h
  rcases List.mem_append.1 h with h | h
  · exact .inl (List.mem_of_mem_take h)
  · rcases List.mem_cons.1 h with h | h
    · exact .inr (.inl h)
    · rcases List.mem_cons.1 h with h | h
      · exact .inr (.inr h)
      · exact .inl (List.mem_of_mem_drop h)
theorem cut_sz {f : Rat} {l : List Lay} {k : Nat} (hk : k < l.length) (hz : ∀ x ∈ l, LaySz 1 x) (sf : SzQ 1 f) : ∀ x ∈ cutL f l k, LaySz 4 x := fun x hx => by
  have a := lay_sz_at hz k hk
  rcases mem_cut hk hx with h | rfl | rfl
  · have := hz x h
    exact ⟨this.1.mono (by omega), this.2.1.mono (by omega), this.2.2.mono (by omega)⟩
  · exact ⟨a.1.mono (by omega), (SzQ.mul a.2.1 sf).mono (by omega), a.2.2.mono (by omega)⟩
  · exact ⟨a.1.mono (by omega), (SzQ.sub a.2.1 (SzQ.mul a.2.1 sf)).mono (by omega), a.2.2.mono (by omega)⟩
theorem cut_pos {f : Rat} {l : List Lay} {k : Nat} (hk : k < l.length) (hp : l.all layPos = true) (h0 : 0 < f) (h1 : f < 1) : (cutL f l k).all layPos = true := by
  refine List.all_eq_true.2 fun x hx => ?_
  have a := lay_pos_at hp k hk
  rcases mem_cut hk hx with h | rfl | rfl
  · exact List.all_eq_true.1 hp x h
  · have := Rat.mul_pos a.2.1 h0
    simp [layPos, a.1, a.2.2, this]
  · have h2 := Rat.mul_pos a.2.1 (show 0 < 1 - f by grind)
    have h3 : 0 < (layAt l k).2.1 - (layAt l k).2.1 * f := by grind
    simp [layPos, a.1, a.2.2, h3]
theorem loud_sz {c : Rat} {l : List Lay} (hz : ∀ x ∈ l, LaySz 1 x) (sc : SzQ 1 c) : ∀ x ∈ loudL c l, LaySz 4 x := fun x hx => by
  obtain ⟨y, hy, rfl⟩ := List.mem_map.1 hx
  have := hz y hy
  exact ⟨(SzQ.mul this.1 sc).mono (by omega), this.2.1.mono (by omega), this.2.2.mono (by omega)⟩
theorem loud_pos {c : Rat} {l : List Lay} (hp : l.all layPos = true) (h0 : 0 < c) : (loudL c l).all layPos = true := by
  refine List.all_eq_true.2 fun x hx => ?_
  obtain ⟨y, hy, rfl⟩ := List.mem_map.1 hx
  have := List.all_eq_true.1 hp y hy
  simp only [layPos, Bool.and_eq_true, decide_eq_true_eq] at this
  have h2 := Rat.mul_pos this.1 h0
  simp [layPos, h2, this.2.1, this.2.2]
theorem echo_szs {l : List Lay} {B : Nat} (hB : B ≤ 1000) (hl : l.length ≤ 12) (hz : ∀ x ∈ l, LaySz B x) (hp : l.all layPos = true) {X : List Stp} (hX : echoQ l (l.length - 1) = X) (i : Nat) (hi : i < X.length) : SzQ 100000 (taQ X i) ∧ SzQ 200000 (vaQ X i) := by
  subst hX
  exact echo_sz hz (List.all_eq_true.1 hp) hB hl _ (List.mem_of_getElem? (stp_some hi))
end Go.Proofs.Ytkfekkhhfpkfaaa
