/-
  What the sign of a difference says of an order; pairs of fractions in one value. No function of the program is walked here.
-/
import Derived.Test.YtlfnapfnpkhggaaGreatPkOps
import Derived.Test.YtlfnapfnpkhggaaGreatGr
set_option linter.unusedSimpArgs false
set_option linter.unusedVariables false
namespace Go.Proofs.YtlfnapfnpkhggaaGreat
open Go.RowKit Dg

theorem s1_pos (x : Rat) : 0 < sgQ x ↔ 0 < x := by
  have h := sgQ_le x
  by_cases hc : 0 < x
  · exact ⟨fun _ => hc, fun _ => by have := mt h.1 (fun hn => hn hc); omega⟩
  · exact ⟨fun h1 => absurd (h.2 hc) (by omega), fun h1 => absurd h1 hc⟩
theorem s1_lt (x : Rat) : sgQ x < 0 ↔ x < 0 := sgQ_lt x
theorem s1_le (x : Rat) : sgQ x ≤ 0 ↔ x ≤ 0 := by rw [← Rat.not_lt, ← s1_pos]; omega
theorem s1_ge (x : Rat) : 0 ≤ sgQ x ↔ 0 ≤ x := by rw [← Rat.not_lt, ← s1_lt]; omega
theorem s1_eq (x : Rat) : sgQ x = 0 ↔ x = 0 := sgQ_eq0 x
theorem sq_gt (x y : Rat) : 0 < sgQ (x - y) ↔ y < x := by rw [s1_pos, ← Rat.lt_iff_sub_pos]
theorem sq_lt (x y : Rat) : sgQ (x - y) < 0 ↔ x < y := by
  have e : (0 : Rat) - (x - y) = y - x := by simp [Rat.sub_eq_add_neg, Rat.neg_add, Rat.add_comm, Rat.zero_add, Rat.add_zero]
  rw [s1_lt, Rat.lt_iff_sub_pos, e, ← Rat.lt_iff_sub_pos]
theorem sq_le (x y : Rat) : sgQ (x - y) ≤ 0 ↔ x ≤ y := by rw [← Rat.not_lt, ← sq_gt]; omega
theorem sq_ge (x y : Rat) : 0 ≤ sgQ (x - y) ↔ y ≤ x := by rw [← Rat.not_lt, ← sq_lt]; omega
theorem sq_eq (x y : Rat) : sgQ (x - y) = 0 ↔ x = y := by
  constructor
  · intro h; exact Rat.le_antisymm ((sq_le x y).1 (by omega)) ((sq_ge x y).1 (by omega))
  · intro h; subst h; rw [Rat.sub_eq_add_neg, Rat.add_neg_cancel]; rfl
theorem szQ_two : SzQ 1 (2 : Rat) := szQ_int (n := 2) (by decide)
theorem RV.zero (w : World) : RV w (.agg #[.bool false, .slice none 0 0, .slice none 0 0]) 0 :=
  ⟨_, _, 0, rfl, ⟨_, _, _, [], rfl, Sl.empty _ _ _ _ (by omega) (fun _ => rfl), Canon.nil _, rfl⟩, ⟨_, _, _, [], rfl, Sl.empty _ _ _ _ (by omega) (fun _ => rfl), Canon.nil _, rfl⟩, .inr ⟨rfl, rfl⟩⟩
/-- Numbers of a middle size: products and sums of a few of them are borne by all functions. -/
abbrev Mid (q : Rat) : Prop := SzQ 1000000 q
theorem SzQ.mid {K : Nat} {q : Rat} (h : SzQ K q) (hK : K ≤ 1000000 := by omega) : Mid q := h.mono hK
/-- Two fractions of the program in one value; of the reference. -/
def PV2 (w : World) (v : Value) (x y : Rat) : Prop := ∃ a b c d e f, v = .agg #[a, b, c, d, e, f] ∧ PV w (.agg #[a, b, c]) x ∧ PV w (.agg #[d, e, f]) y
def RV2 (w : World) (v : Value) (x y : Rat) : Prop := ∃ a b c d e f, v = .agg #[a, b, c, d, e, f] ∧ RV w (.agg #[a, b, c]) x ∧ RV w (.agg #[d, e, f]) y
section
variable {w w' : World} {v : Value} {x y : Rat}
theorem PV2.mk {a b c d e f : Value} (h1 : PV w (.agg #[a, b, c]) x) (h2 : PV w (.agg #[d, e, f]) y) : PV2 w (.agg #[a, b, c, d, e, f]) x y := ⟨_, _, _, _, _, _, rfl, h1, h2⟩
theorem RV2.mk {a b c d e f : Value} (h1 : RV w (.agg #[a, b, c]) x) (h2 : RV w (.agg #[d, e, f]) y) : RV2 w (.agg #[a, b, c, d, e, f]) x y := ⟨_, _, _, _, _, _, rfl, h1, h2⟩
theorem PV2.shape (h : PV2 w v x y) : ∃ s a n c A N D s' a' n' c' A' N' D', v = .agg #[.bool s, .slice a n c, .slice A N D, .bool s', .slice a' n' c', .slice A' N' D'] ∧ PV w (.agg #[.bool s, .slice a n c, .slice A N D]) x ∧ PV w (.agg #[.bool s', .slice a' n' c', .slice A' N' D']) y := by
  obtain ⟨_, _, _, _, _, _, rfl, h1, h2⟩ := h
  obtain ⟨_, _, _, _, _, _, _, e⟩ := h1.shape
  obtain ⟨rfl, rfl, rfl⟩ := agg3 e
  obtain ⟨_, _, _, _, _, _, _, e⟩ := h2.shape
  obtain ⟨rfl, rfl, rfl⟩ := agg3 e
  exact ⟨_, _, _, _, _, _, _, _, _, _, _, _, _, _, rfl, h1, h2⟩
theorem RV2.shape (h : RV2 w v x y) : ∃ s a n c A N D s' a' n' c' A' N' D', v = .agg #[.bool s, .slice a n c, .slice A N D, .bool s', .slice a' n' c', .slice A' N' D'] ∧ RV w (.agg #[.bool s, .slice a n c, .slice A N D]) x ∧ RV w (.agg #[.bool s', .slice a' n' c', .slice A' N' D']) y := by
  obtain ⟨_, _, _, _, _, _, rfl, h1, h2⟩ := h
  obtain ⟨_, _, _, _, _, _, _, e⟩ := h1.shape
  obtain ⟨rfl, rfl, rfl⟩ := agg3 e
  obtain ⟨_, _, _, _, _, _, _, e⟩ := h2.shape
  obtain ⟨rfl, rfl, rfl⟩ := agg3 e
  exact ⟨_, _, _, _, _, _, _, _, _, _, _, _, _, _, rfl, h1, h2⟩
theorem PV2.mono (h : PV2 w v x y) (hb : Below w.heap.size w w') : PV2 w' v x y := by
  obtain ⟨_, _, _, _, _, _, rfl, h1, h2⟩ := h
  exact .mk (h1.mono hb) (h2.mono hb)
theorem RV2.mono (h : RV2 w v x y) (hb : Below w.heap.size w w') : RV2 w' v x y := by
  obtain ⟨_, _, _, _, _, _, rfl, h1, h2⟩ := h
  exact .mk (h1.mono hb) (h2.mono hb)
end
/-- The i-th number of a list. -/
def nthQ (L : List Rat) (i : Nat) : Rat := L.getD i 0
theorem nthQ_some {L : List Rat} {i : Nat} (h : i < L.length) : L[i]? = some (nthQ L i) := by unfold nthQ; rw [List.getD_eq_getElem?_getD, List.getElem?_eq_getElem h]; rfl
theorem PC.cells {w : World} {cs : List Value} {x : Rat} (h : PC w cs x) : ∃ g a n c A N D, cs = [.bool g, .slice a n c, .slice A N D] ∧ PV w (.agg #[.bool g, .slice a n c, .slice A N D]) x := by
  obtain ⟨_, _, _, rfl, h⟩ := h
  obtain ⟨g, a, n, c, A, N, D, e⟩ := h.shape
  obtain ⟨rfl, rfl, rfl⟩ := agg3 e
  exact ⟨g, a, n, c, A, N, D, rfl, h⟩
theorem RC.cells {w : World} {cs : List Value} {x : Rat} (h : RC w cs x) : ∃ g a n c A N D, cs = [.bool g, .slice a n c, .slice A N D] ∧ RV w (.agg #[.bool g, .slice a n c, .slice A N D]) x := by
  obtain ⟨_, _, _, rfl, h⟩ := h
  obtain ⟨g, a, n, c, A, N, D, e⟩ := h.shape
  obtain ⟨rfl, rfl, rfl⟩ := agg3 e
  exact ⟨g, a, n, c, A, N, D, rfl, h⟩
theorem rowP_at {w : World} {T : TypeId} {b o n c : Nat} {L : List Rat} {i : Nat} (h : Rows 3 T PC w (.slice (some ⟨b, o, none⟩) n c) L) (hi : i < L.length) :
    ∃ g a n' c' A N D, w.cell? ⟨b, o + i * 3, none⟩ = some (.bool g) ∧ w.cell? ⟨b, o + i * 3 + 1, none⟩ = some (.slice a n' c') ∧ w.cell? ⟨b, o + i * 3 + 2, none⟩ = some (.slice A N D) ∧ PV w (.agg #[.bool g, .slice a n' c', .slice A N D]) (nthQ L i) ∧ b < w.heap.size := by
  obtain ⟨b', o', c', cs, hv, _, hat, hc⟩ := h.get (nthQ_some hi)
  obtain ⟨e, rfl⟩ := sliceE hv
  injection e with e
  injection e with e1 e2
  subst e1 e2
  obtain ⟨g, a, n', c', A, N, D, rfl, hp⟩ := hc.cells
  exact ⟨g, a, n', c', A, N, D, hat 0 _ rfl, hat 1 _ rfl, hat 2 _ rfl, hp, cell_lt (hat 0 _ rfl)⟩
theorem rowR_at {w : World} {T : TypeId} {b o n c : Nat} {L : List Rat} {i : Nat} (h : Rows 3 T RC w (.slice (some ⟨b, o, none⟩) n c) L) (hi : i < L.length) :
    ∃ g a n' c' A N D, w.cell? ⟨b, o + i * 3, none⟩ = some (.bool g) ∧ w.cell? ⟨b, o + i * 3 + 1, none⟩ = some (.slice a n' c') ∧ w.cell? ⟨b, o + i * 3 + 2, none⟩ = some (.slice A N D) ∧ RV w (.agg #[.bool g, .slice a n' c', .slice A N D]) (nthQ L i) ∧ b < w.heap.size := by
  obtain ⟨b', o', c', cs, hv, _, hat, hc⟩ := h.get (nthQ_some hi)
  obtain ⟨e, rfl⟩ := sliceE hv
  injection e with e
  injection e with e1 e2
  subst e1 e2
  obtain ⟨g, a, n', c', A, N, D, rfl, hp⟩ := hc.cells
  exact ⟨g, a, n', c', A, N, D, hat 0 _ rfl, hat 1 _ rfl, hat 2 _ rfl, hp, cell_lt (hat 0 _ rfl)⟩
/-- A list abides stores into other blocks. -/
theorem Rows.gr {α : Type} {size : Nat} {T : TypeId} {R : World → List Value → α → Prop} {gs : List Nat} {w w' : World} {b o n c : Nat} {l : List α} (h : Rows size T R w (.slice (some ⟨b, o, none⟩) n c) l) (hR : Kept R) (hG : Gr gs w w') (hn : b ∉ gs) (hk : KeepD w w') :
    Rows size T R w' (.slice (some ⟨b, o, none⟩) n c) l := by
  obtain ⟨ao, c', e, h1, h2, h3, h4, h5⟩ := h
  injection e with ea en ec
  subst ea en ec
  refine ⟨_, _, rfl, h1, h2, h3, fun a ea hl => ?_, fun i x hx => ?_⟩
  · cases ea
    obtain ⟨cs, fr, h6⟩ := h4 _ rfl hl
    exact ⟨cs, fr, (hG.block b (lt_of_block h6) hn).trans h6⟩
  · obtain ⟨b', o', cs, ea, hl, hc, hr⟩ := h5 i x hx
    cases ea
    exact ⟨b, o, cs, rfl, hl, fun j u hu => hG.cell (hc j u hu) hn, hR _ _ _ _ hr hk⟩
/-- The least, the greatest of the first k + 1 numbers. -/
def mnL (L : List Rat) : Nat → Rat
  | 0 => nthQ L 0
  | k + 1 => if nthQ L (k + 1) < mnL L k then nthQ L (k + 1) else mnL L k
def mxL (L : List Rat) : Nat → Rat
  | 0 => nthQ L 0
  | k + 1 => if mxL L k < nthQ L (k + 1) then nthQ L (k + 1) else mxL L k
theorem mnL_succ (L : List Rat) (k : Nat) : mnL L (k + 1) = if nthQ L (k + 1) < mnL L k then nthQ L (k + 1) else mnL L k := rfl
theorem mxL_succ (L : List Rat) (k : Nat) : mxL L (k + 1) = if mxL L k < nthQ L (k + 1) then nthQ L (k + 1) else mxL L k := rfl
theorem mnL_all {p : Rat → Prop} {L : List Rat} (h : ∀ i, i < L.length → p (nthQ L i)) : ∀ k, k < L.length → p (mnL L k)
  | 0, hk => h 0 hk
  | k + 1, hk => by
    rw [mnL_succ]
    split
    · exact h _ hk
    · exact mnL_all h k (by omega)
theorem mxL_all {p : Rat → Prop} {L : List Rat} (h : ∀ i, i < L.length → p (nthQ L i)) : ∀ k, k < L.length → p (mxL L k)
  | 0, hk => h 0 hk
  | k + 1, hk => by
    rw [mxL_succ]
    split
    · exact h _ hk
    · exact mxL_all h k (by omega)
theorem belowJ' (A W W' : World) (h : Below A.heap.size A W) (hb : Below W.heap.size W W') : Below A.heap.size A W' := bStep h hb
theorem rowsPB (v : Value) (W W' : World) {l : List Rat} (h : Rows 3 40 PC W v l) (hb : Below W.heap.size W W') : Rows 3 40 PC W' v l := h.mono PC.kept hb
theorem rowsRB (v : Value) (W W' : World) {l : List Rat} (h : Rows 3 45 RC W v l) (hb : Below W.heap.size W W') : Rows 3 45 RC W' v l := h.mono RC.kept hb
end Go.Proofs.YtlfnapfnpkhggaaGreat
