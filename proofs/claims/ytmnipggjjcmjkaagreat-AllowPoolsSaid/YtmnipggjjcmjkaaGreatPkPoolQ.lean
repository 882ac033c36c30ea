/-
  Which batches are taken together: as plain lists. No function of the program is walked here.
-/
import Derived.Test.YtmnipggjjcmjkaaGreatSame0Q
import Derived.Test.YtmnipggjjcmjkaaGreatPkVecQ
import Derived.Test.YtmnipggjjcmjkaaGreatPkReadQ
import Derived.Test.YtmnipggjjcmjkaaGreatAlkGQ
import Derived.Test.YtmnipggjjcmjkaaGreatAlkCQ
import Derived.Test.YtmnipggjjcmjkaaGreatAlLQ
import Derived.Test.YtmnipggjjcmjkaaGreatPkAlBQ
import Derived.Test.YtmnipggjjcmjkaaGreatAlAwQ
set_option linter.unusedSimpArgs false
set_option linter.unusedVariables false
namespace Go.Proofs.YtmnipggjjcmjkaaGreat
open Go.RowKit Dg

/-- The i-th list. -/
def nthL (L : List (List Rat)) (i : Nat) : List Rat := L.getD i []
/-- How many numbers the first k lists have together. -/
def lenS (L : List (List Rat)) : Nat → Nat
  | 0 => 0
  | k + 1 => lenS L k + (nthL L k).length
/-- What is taken of the first k batches, and which they are. -/
def poolS (lev : Rat) (L : List (List Rat)) : Nat → List Rat × List Bool
  | 0 => ([], [])
  | k + 1 => if k = 0 ∨ lev ≤ alA (poolS lev L k).1 (nthL L k) then ((poolS lev L k).1 ++ nthL L k, (poolS lev L k).2 ++ [true]) else ((poolS lev L k).1, (poolS lev L k).2 ++ [false])
theorem poolS_succ (lev : Rat) (L : List (List Rat)) (k : Nat) : poolS lev L (k + 1) = if k = 0 ∨ lev ≤ alA (poolS lev L k).1 (nthL L k) then ((poolS lev L k).1 ++ nthL L k, (poolS lev L k).2 ++ [true]) else ((poolS lev L k).1, (poolS lev L k).2 ++ [false]) := rfl
def tkS (lev : Rat) (L : List (List Rat)) (k : Nat) : List Rat := (poolS lev L k).1
def okS (lev : Rat) (L : List (List Rat)) (k : Nat) : List Bool := (poolS lev L k).2
theorem tkS_zero (lev : Rat) (L : List (List Rat)) : tkS lev L 0 = [] := rfl
theorem okS_zero (lev : Rat) (L : List (List Rat)) : okS lev L 0 = [] := rfl
theorem tkS_first (lev : Rat) (L : List (List Rat)) : tkS lev L (0 + 1) = tkS lev L 0 ++ nthL L 0 := by show (poolS lev L (0 + 1)).1 = (poolS lev L 0).1 ++ nthL L 0; rw [poolS_succ, if_pos (.inl rfl)]
theorem okS_first (lev : Rat) (L : List (List Rat)) : okS lev L (0 + 1) = okS lev L 0 ++ [true] := by show (poolS lev L (0 + 1)).2 = (poolS lev L 0).2 ++ [true]; rw [poolS_succ, if_pos (.inl rfl)]
theorem tkS_yes {lev : Rat} {L : List (List Rat)} {k : Nat} (h : lev ≤ alA (tkS lev L k) (nthL L k)) : tkS lev L (k + 1) = tkS lev L k ++ nthL L k := by unfold tkS at *; rw [poolS_succ, if_pos (.inr h)]
theorem okS_yes {lev : Rat} {L : List (List Rat)} {k : Nat} (h : lev ≤ alA (tkS lev L k) (nthL L k)) : okS lev L (k + 1) = okS lev L k ++ [true] := by unfold okS tkS at *; rw [poolS_succ, if_pos (.inr h)]
theorem tkS_no {lev : Rat} {L : List (List Rat)} {k : Nat} (h0 : ¬ k = 0) (h : ¬ lev ≤ alA (tkS lev L k) (nthL L k)) : tkS lev L (k + 1) = tkS lev L k := by unfold tkS at *; rw [poolS_succ, if_neg (fun e => e.elim h0 h)]
theorem okS_no {lev : Rat} {L : List (List Rat)} {k : Nat} (h0 : ¬ k = 0) (h : ¬ lev ≤ alA (tkS lev L k) (nthL L k)) : okS lev L (k + 1) = okS lev L k ++ [false] := by unfold okS tkS at *; rw [poolS_succ, if_neg (fun e => e.elim h0 h)]
theorem okS_len (lev : Rat) (L : List (List Rat)) : ∀ k, (okS lev L k).length = k
  | 0 => rfl
  | k + 1 => by
    have := okS_len lev L k
    by_cases h0 : k = 0
    · subst h0; rw [okS_first, List.length_append, this]; rfl
    · by_cases h : lev ≤ alA (tkS lev L k) (nthL L k)
      · rw [okS_yes h, List.length_append, this]; rfl
      · rw [okS_no h0 h, List.length_append, this]; rfl
theorem tkS_len (lev : Rat) (L : List (List Rat)) : ∀ k, (tkS lev L k).length ≤ lenS L k
  | 0 => Nat.le_refl _
  | k + 1 => by
    have := tkS_len lev L k
    show _ ≤ lenS L k + (nthL L k).length
    by_cases h0 : k = 0
    · subst h0; rw [tkS_first, List.length_append]; omega
    · by_cases h : lev ≤ alA (tkS lev L k) (nthL L k)
      · rw [tkS_yes h, List.length_append]; omega
      · rw [tkS_no h0 h]; omega
theorem nthL_some {L : List (List Rat)} {i : Nat} (h : i < L.length) : L[i]? = some (nthL L i) := by
  unfold nthL
  rw [List.getD_eq_getElem?_getD, List.getElem?_eq_getElem h]; rfl
theorem tkS_pos {lev : Rat} {L : List (List Rat)} (hL : ∀ i, i < L.length → 1 ≤ (nthL L i).length) : ∀ k, 0 < k → k ≤ L.length → 1 ≤ (tkS lev L k).length
  | 0, h, _ => absurd h (Nat.lt_irrefl 0)
  | k + 1, _, hk => by
    by_cases h0 : k = 0
    · subst h0; rw [tkS_first, List.length_append]; have := hL 0 (by omega); omega
    · have := tkS_pos (lev := lev) hL k (by omega) (by omega)
      by_cases h : lev ≤ alA (tkS lev L k) (nthL L k)
      · rw [tkS_yes h, List.length_append]; omega
      · rw [tkS_no h0 h]; omega
theorem lenS_mono (L : List (List Rat)) : ∀ {j k : Nat}, j ≤ k → lenS L j ≤ lenS L k
  | j, 0, h => by obtain rfl : j = 0 := by omega
                  exact Nat.le_refl _
  | j, k + 1, h => by
    by_cases e : j = k + 1
    · subst e; exact Nat.le_refl _
    · have := lenS_mono L (show j ≤ k by omega); show _ ≤ lenS L k + _; omega
theorem len_one {L : List (List Rat)} {i : Nat} (h : i < L.length) : lenS L i + (nthL L i).length ≤ lenS L L.length := lenS_mono L (show i + 1 ≤ L.length from h)
/-- All numbers of a list have few bits. -/
def SzL (l : List Rat) : Prop := ∀ x ∈ l, SzQ 1 x
theorem SzL.app {a b : List Rat} (h : SzL a) (h' : SzL b) : SzL (a ++ b) := fun x hx => (List.mem_append.1 hx).elim (h x) (h' x)
theorem SzL.at {a : List Rat} (h : SzL a) (i : Nat) (hi : i < a.length) : SzQ 100000 (nthQ a i) := (h _ (List.mem_of_getElem? (nthQ_some hi))).mono (by decide)
theorem tkS_sz {lev : Rat} {L : List (List Rat)} (hL : ∀ i, i < L.length → SzL (nthL L i)) : ∀ k, k ≤ L.length → SzL (tkS lev L k)
  | 0, _ => fun x hx => by cases hx
  | k + 1, hk => by
    have h1 := tkS_sz (lev := lev) hL k (by omega)
    have h2 := hL k (by omega)
    by_cases h0 : k = 0
    · subst h0; rw [tkS_first]; exact h1.app h2
    · by_cases h : lev ≤ alA (tkS lev L k) (nthL L k)
      · rw [tkS_yes h]; exact h1.app h2
      · rw [tkS_no h0 h]; exact h1
/-- A batch's error. -/
def chE (l : List Rat) : Int := if l.length < 1 ∨ 64 < l.length then 4 else 0
theorem chE_zero {l : List Rat} (h : chE l = 0) : 1 ≤ l.length ∧ l.length ≤ 64 := by
  unfold chE at h
  by_cases c : l.length < 1 ∨ 64 < l.length
  · rw [if_pos c] at h; cases h
  · omega
theorem chE_four {l : List Rat} (h : ¬ chE l = 0) : chE l = 4 := by
  unfold chE at *
  by_cases c : l.length < 1 ∨ 64 < l.length
  · rw [if_pos c]
  · rw [if_neg c] at h; exact absurd rfl h
/-- All batches are right. -/
def allOk (L : List (List Rat)) (k : Nat) : Prop := ∀ i, i < k → chE (nthL L i) = 0
theorem allOk.at {L : List (List Rat)} {n : Nat} (h : allOk L n) (i : Nat) (hi : i < n) : chE (nthL L i) = 0 := h i hi
theorem allOk.ifz {L : List (List Rat)} {n : Nat} (h : allOk L n) (i : Nat) (hi : i < n) : (if (nthL L i).length < 1 ∨ 64 < (nthL L i).length then (4 : Int) else 0) = 0 := h i hi
theorem allOk.zero (L : List (List Rat)) : allOk L 0 := fun i h => by omega
theorem allOk.next {L : List (List Rat)} {k : Nat} (h : allOk L k) (e : chE (nthL L k) = 0) : allOk L (k + 1) := fun i hi => by
  by_cases c : i = k
  · subst c; exact e
  · exact h i (by omega)
/-- The list that the reference fills, behind k batches. -/
def okR (lev : Rat) (L : List (List Rat)) (k : Nat) : List Bool := okS lev L k ++ List.replicate (L.length - k) false
theorem okR_zero (lev : Rat) (L : List (List Rat)) : List.replicate L.length false = okR lev L 0 := by unfold okR; rw [okS_zero, List.nil_append]; rfl
theorem okR_end (lev : Rat) (L : List (List Rat)) : okR lev L L.length = okS lev L L.length := by unfold okR; rw [Nat.sub_self]; simp
theorem okR_len (lev : Rat) (L : List (List Rat)) {k : Nat} (h : k ≤ L.length) : (okR lev L k).length = L.length := by unfold okR; rw [List.length_append, okS_len, List.length_replicate]; omega
theorem okR_set {lev : Rat} {L : List (List Rat)} {k : Nat} (h : k < L.length) (e : okS lev L (k + 1) = okS lev L k ++ [true]) : (okR lev L k).set k true = okR lev L (k + 1) := by
  unfold okR
  rw [e, List.set_append_right _ _ (by rw [okS_len]; exact Nat.le_refl _), okS_len, Nat.sub_self, show L.length - k = (L.length - (k + 1)) + 1 from by omega, List.replicate_succ, List.set_cons_zero, List.append_assoc]
  rfl
theorem okR_keep {lev : Rat} {L : List (List Rat)} {k : Nat} (h : k < L.length) (e : okS lev L (k + 1) = okS lev L k ++ [false]) : okR lev L k = okR lev L (k + 1) := by
  unfold okR
  rw [e, show L.length - k = (L.length - (k + 1)) + 1 from by omega, List.replicate_succ, List.append_assoc]
  rfl
end Go.Proofs.YtmnipggjjcmjkaaGreat
/-
  Lists of lists in memory: a slice whose elements are slices. No function of the program is in sight here.
-/
namespace Go.Proofs.YtmnipggjjcmjkaaGreat
open Go.RowKit Dg Go.ChangeShapes Go.WideShapes Go.Deep

/-- What is said of cells abides new blocks. -/
def KeptB {α : Type} (R : World → List Value → α → Prop) : Prop := ∀ (w w' : World) (cs : List Value) (x : α), R w cs x → Below w.heap.size w w' → R w' cs x
/-- One cell that is a slice of elements in 'size' cells each. -/
def LR {α : Type} (size : Nat) (T : TypeId) (R : World → List Value → α → Prop) (w : World) (cs : List Value) (l : List α) : Prop := ∃ v, cs = [v] ∧ Rows size T R w v l
/-- .. of one that came in. -/
def LRI {α : Type} (size : Nat) (R : World → List Value → α → Prop) (w : World) (cs : List Value) (l : List α) : Prop := ∃ v, cs = [v] ∧ RowsI size R w v l
section
variable {α β : Type} {size sz : Nat} {T U : TypeId} {R : World → List Value → α → Prop} {S : World → List Value → β → Prop} {w w' : World} {v : Value} {l : List α} {base : Nat}
theorem LR.keptB (hR : Kept R) : KeptB (LR size T R) := fun _ _ _ _ h hb => by
  obtain ⟨v, e, h⟩ := h
  exact ⟨v, e, h.mono hR hb⟩
theorem LRI.keptB (hR : Kept R) : KeptB (LRI size R) := fun _ _ _ _ h hb => by
  obtain ⟨v, e, h⟩ := h
  exact ⟨v, e, h.mono hR hb⟩
theorem Rows.monoB (hR : KeptB R) (h : Rows size T R w v l) (hb : Below w.heap.size w w') : Rows size T R w' v l := by
  obtain ⟨ao, c, e, h1, h2, h3, h4, h5⟩ := h
  refine ⟨ao, c, e, h1, h2, h3, h4.mono hb, fun i x hx => ?_⟩
  obtain ⟨b, o, cs, ea, hl, hc, hr⟩ := h5 i x hx
  exact ⟨b, o, cs, ea, hl, hc.mono hb, hR _ _ _ _ hr hb⟩
theorem RowsI.monoB (hR : KeptB R) (h : RowsI size R w v l) (hb : Below w.heap.size w w') : RowsI size R w' v l := by
  obtain ⟨ao, c, e, h1, h2, h3, h5⟩ := h
  refine ⟨ao, c, e, h1, h2, h3, fun i x hx => ?_⟩
  obtain ⟨b, o, cs, ea, hl, hc, hr⟩ := h5 i x hx
  exact ⟨b, o, cs, ea, hl, hc.mono hb, hR _ _ _ _ hr hb⟩
/-- An own slice of slices. -/
def OwnL {β : Type} (base : Nat) (T : TypeId) (sz : Nat) (U : TypeId) (S : World → List Value → β → Prop) (w : World) (v : Value) (l : List (List β)) : Prop := OwnR base T 1 (LR sz U S) w v l
theorem OwnL.nil (w : World) (base : Nat) (T : TypeId) (sz : Nat) (U : TypeId) (S : World → List Value → β → Prop) : OwnL base T sz U S w (.slice none 0 0) [] := OwnR.nil _ _ _ _ _
theorem OwnL.mono {l : List (List β)} (hS : Kept S) (h : OwnL base T sz U S w v l) (hb : Below w.heap.size w w') : OwnL base T sz U S w' v l := by
  obtain ⟨css, h1, h2, h3, h4⟩ := h
  exact ⟨css, h1, h2, fun i cs x hc hx => LR.keptB hS _ _ _ _ (h3 i cs x hc hx) hb, owns_below h4 hb⟩
theorem OwnL.onlyT {l : List (List β)} (hS : Kept S) {t : TypeId} (h : OwnL base T sz U S w v l) (ho : OnlyT t w w') (hne : t ≠ T) (hu : t ≠ U) (hd : t ≠ 176 ∧ t ≠ 212) : OwnL base T sz U S w' v l := by
  obtain ⟨css, h1, h2, h3, h4⟩ := h
  refine ⟨css, h1, h2, fun i cs x hc hx => ?_, owns_other h4 ho hne⟩
  obtain ⟨u, e, hr⟩ := h3 i cs x hc hx
  exact ⟨u, e, hr.onlyT hS ho hu hd⟩
theorem OwnL.push {l : List (List β)} (hS : Kept S) {t : TypeId} {css : List (List Value)} (h1 : css.length = l.length) (h2 : ∀ cs ∈ css, cs.length = 1) (h3 : ∀ (i : Nat) (cs : List Value) (x : List β), css[i]? = some cs → l[i]? = some x → LR sz U S w cs x) {v' u : Value} {x : List β} (hx : Rows sz U S w u x)
    {n : Nat} (hn : l.length = n) (hown : w'.ownsRow base T 1 v' (n + 1) (css.flatten ++ [u])) (ho : OnlyT t w w') (hu : t ≠ U) (hd : t ≠ 176 ∧ t ≠ 212) : OwnL base T sz U S w' v' (l ++ [x]) := by
  subst hn
  refine ⟨css ++ [[u]], by simp [h1], ?_, ?_, ?_⟩
  · intro c hc
    rcases List.mem_append.1 hc with h | h
    · exact h2 c h
    · simp at h; rw [h]; rfl
  · intro i c y hc hy
    by_cases hi : i < l.length
    · rw [List.getElem?_append_left (by omega)] at hc
      rw [List.getElem?_append_left hi] at hy
      obtain ⟨z, e, hr⟩ := h3 i c y hc hy
      exact ⟨z, e, hr.onlyT hS ho hu hd⟩
    · have hi' : i = l.length := by
        have := (List.getElem?_eq_some_iff.1 hy).1
        simp at this
        omega
      subst hi'
      rw [List.getElem?_append_right (by omega), h1] at hc
      rw [List.getElem?_append_right (Nat.le_refl _)] at hy
      simp at hc hy
      subst hc hy
      exact ⟨u, rfl, hx.onlyT hS ho hu hd⟩
  · simpa using hown
theorem OwnL.rows {l : List (List β)} (h : OwnL base T sz U S w v l) : Rows 1 T (LR sz U S) w v l := OwnR.rows h
theorem OwnL.slice {l : List (List β)} (h : OwnL base T sz U S w v l) : ∃ ao c, v = .slice ao l.length c ∧ l.length ≤ c ∧ c ≤ 9223372036854775807 ∧ (ao = none → c = 0) := OwnR.slice h
/-- An element: its slice, and what it holds. -/
theorem rowL_at {α : Type} {R : World → List Value → α → Prop} {b o n c : Nat} {L : List (List α)} (h : Rows 1 T (LR sz U R) w (.slice (some ⟨b, o, none⟩) n c) L) {i : Nat} {x : List α} (hx : L[i]? = some x) : ∃ a k, w.cell? ⟨b, o + i, none⟩ = some (.slice a x.length k) ∧ x.length ≤ k ∧ k ≤ 9223372036854775807 ∧ Rows sz U R w (.slice a x.length k) x ∧ b < w.heap.size := by
  obtain ⟨b', o', c', cs, hv, _, hat, u, rfl, hr⟩ := h.get hx
  injection hv with hv _ _
  injection hv with hv
  injection hv with e1 e2
  subst e1 e2
  obtain ⟨a, k, rfl, h1, h2, _⟩ := hr.slice
  have := hat 0 _ rfl
  rw [Nat.mul_one, Nat.add_zero] at this
  exact ⟨a, k, this, h1, h2, hr, cell_lt this⟩
theorem rowLI_at {α : Type} {R : World → List Value → α → Prop} {b o n c : Nat} {L : List (List α)} (h : RowsI 1 (LRI sz R) w (.slice (some ⟨b, o, none⟩) n c) L) {i : Nat} {x : List α} (hx : L[i]? = some x) : ∃ a k, w.cell? ⟨b, o + i, none⟩ = some (.slice a x.length k) ∧ x.length ≤ k ∧ k ≤ 9223372036854775807 ∧ RowsI sz R w (.slice a x.length k) x ∧ b < w.heap.size := by
  obtain ⟨b', o', c', cs, hv, _, hat, u, rfl, hr⟩ := h.get hx
  injection hv with hv _ _
  injection hv with hv
  injection hv with e1 e2
  subst e1 e2
  obtain ⟨a, k, rfl, h1, h2, _⟩ := hr.slice
  have := hat 0 _ rfl
  rw [Nat.mul_one, Nat.add_zero] at this
  exact ⟨a, k, this, h1, h2, hr, cell_lt this⟩
end

section
variable {H : Type} {enc : TypeId × Value → H} {P : Program} {W : World} {base b0 : Nat} {spare : Nat → Bool} {held : Bool}
/-- A slice that is an element of another one, read. -/
theorem rowsI_in2 {α : Type} [Inhabited α] {R : World → List Value → α → Prop} {Ok : α → Prop} {t e : TypeId} {size fuel : Nat} {cs : List Value} {x : DataW H × List MemPlace} (ht : P.underlying t = some (.slice e)) (hsz : P.cellsOf e = size) (h0 : 0 < size)
    (hel : ∀ n cs x, DataW.trod enc P W base spare held n e cs = some x → ∃ y, R W cs y ∧ Ok y)
    (hf : DataW.trod enc P W base spare held fuel t cs = some x) : ∃ l : List α, LRI size R W cs l ∧ ∀ y ∈ l, Ok y := by
  rcases open_slice ht hf with ⟨hcs, _⟩ | ⟨a, len, cap, m, n, D, Pl, hcs, _, hl, hm, hmm, _, hx⟩
  · subst hcs
    exact ⟨[], ⟨_, rfl, none, 0, rfl, by simp, by omega, fun _ => rfl, fun i x hx => by simp at hx⟩, by simp⟩
  · subst hcs
    obtain ⟨b, o, sp⟩ := a
    have hsp : 0 < len → sp = none := fun hl0 => by
      obtain ⟨cs, h1, h2⟩ := hx 0 (by rw [hmm]; split <;> omega)
      rw [hsz, Nat.zero_mul] at h1
      obtain ⟨_, h3, h4⟩ := World.cells?_some h1
      have h5 := h4 0 h0
      rw [List.getElem?_eq_getElem (by omega)] at h5
      cases sp with
      | none => rfl
      | some z =>
        exfalso
        have e : ((({ block := b, off := o, spot := some z } : Addr).add 0).add 0) = { block := b, off := o, spot := some z } := by simp [Addr.add]
        rw [e] at h5
        unfold World.cell? at h5
        split at h5 <;> simp at h5
    by_cases hl0 : 0 < len
    · obtain rfl := hsp hl0
      have hall : ∀ i, i < len → ∃ y : α, (∃ cs : List Value, cs.length = size ∧ CellsAt W b (o + i * size) cs ∧ R W cs y) ∧ Ok y := by
        intro i hi
        obtain ⟨cs, h1, h2⟩ := hx i (by rw [hmm]; split <;> omega)
        rw [hsz] at h1
        obtain ⟨_, h3, h4⟩ := World.cells?_some h1
        obtain ⟨y, h5, h6⟩ := hel n cs _ h2
        refine ⟨y, ⟨cs, h3, fun j u hu => ?_, h5⟩, h6⟩
        have hj : j < size := by have := (List.getElem?_eq_some_iff.1 hu).1; omega
        have := h4 j hj
        rw [hu, add_plain, add_plain] at this
        exact this
      obtain ⟨f, hf2⟩ := choose_lt hall
      refine ⟨(List.range len).map f, ⟨_, rfl, some ⟨b, o, none⟩, cap, by simp, by simpa using hl, by unfold maxLen at hm; omega, (fun e => by cases e), fun i x hx2 => ?_⟩, fun y hy => ?_⟩
      · rw [List.getElem?_map] at hx2
        by_cases hi : i < len
        · rw [List.getElem?_range hi] at hx2
          simp only [Option.map_some, Option.some.injEq] at hx2
          subst hx2
          obtain ⟨cs, h1, h2, h3⟩ := (hf2 i hi).1
          exact ⟨b, o, cs, rfl, h1, h2, h3⟩
        · rw [List.getElem?_eq_none (by simpa using hi)] at hx2
          cases hx2
      · obtain ⟨i, hi, rfl⟩ := List.mem_map.1 hy
        exact (hf2 i (List.mem_range.1 hi)).2
    · obtain rfl : len = 0 := by omega
      exact ⟨[], ⟨_, rfl, some ⟨b, o, sp⟩, cap, by simp, by simp, by unfold maxLen at hm; omega, (fun e => by cases e), fun i x hx => by simp at hx⟩, by simp⟩
end
end Go.Proofs.YtmnipggjjcmjkaaGreat
/-
  Pool: what both sides lean on; the reference's both where nothing is taken yet.
-/
namespace Go.Proofs.YtmnipggjjcmjkaaGreat
open Go.RowKit Dg
attribute [local go_sem ↓] Go.wp_at_zero Go.wp_at_succ

def BC (_ : World) (cs : List Value) (x : Bool) : Prop := cs = [.bool x]
theorem BC.kept : Kept BC := fun _ _ _ _ h _ => h
def nthB (L : List Bool) (i : Nat) : Bool := L.getD i false
theorem nthB_some {L : List Bool} {i : Nat} (h : i < L.length) : L[i]? = some (nthB L i) := by
  unfold nthB
  rw [List.getD_eq_getElem?_getD, List.getElem?_eq_getElem h]; rfl
theorem vecB_at {w : World} {T : TypeId} {g : Nat} {L : List Bool} {i : Nat} (h : VecR T 1 BC w g L) (hi : i < L.length) : w.cell? ⟨g, i, none⟩ = some (.bool (nthB L i)) ∧ g < w.heap.size := by
  obtain ⟨cs, _, hr, hat⟩ := h.cell (nthB_some hi)
  subst hr
  have := hat 0 _ rfl
  rw [Nat.mul_one, Nat.add_zero] at this
  exact ⟨this, h.lt⟩
theorem rowB_at {w : World} {U : TypeId} {b o n c : Nat} {L : List Bool} {i : Nat} (h : Rows 1 U BC w (.slice (some ⟨b, o, none⟩) n c) L) (hi : i < L.length) : w.cell? ⟨b, o + i, none⟩ = some (.bool (nthB L i)) ∧ b < w.heap.size := by
  obtain ⟨b', o', c', cs, hv, _, hat, hr⟩ := h.get (nthB_some hi)
  obtain ⟨e, rfl⟩ := sliceE hv
  injection e with e
  injection e with e1 e2
  subst e1 e2
  unfold BC at hr
  subst hr
  have := hat 0 _ rfl
  rw [Nat.mul_one, Nat.add_zero] at this
  exact ⟨this, cell_lt this⟩
theorem bool_info8 : (Tryz.prog.info? 4).map (fun i => (i.zero, i.size, i.bytes)) = some (some (.bool false), 1, 1) := by kernel_rfl
theorem lenS_ok {L : List (List Rat)} : ∀ {k : Nat}, allOk L k → k ≤ L.length → lenS L k ≤ 64 * k
  | 0, _, _ => Nat.le_refl _
  | k + 1, h, hk => by
    have h1 := lenS_ok (k := k) (fun i hi => h i (by omega)) (by omega)
    have h2 := (chE_zero (h k (by omega))).2
    show lenS L k + _ ≤ _
    omega
theorem lenS_all {L : List (List Rat)} (h : allOk L L.length) {k : Nat} (hk : k ≤ L.length) : lenS L k ≤ 64 * k := lenS_ok (fun i hi => h i (by omega)) hk
set_option maxRecDepth 100000 in
set_option maxHeartbeats 4000000 in
theorem r8_both0 {va vb : Value} {la lb : List Rat} (w : World) (ha : Rows 3 36 RC w va la) (hb : Rows 3 36 RC w vb lb) (hv : va = .slice none 0 0) (h1 : la = []) (h2 : 1 ≤ lb.length) (h3 : lb.length ≤ 128) :
    Calls Tryz.prog 84 #[va, vb] w (Ret1 (fun w v => Rows 3 36 RC w v (la ++ lb)) w) := by
  subst hv h1
  obtain ⟨bb, ob, cb, rfl, hb1, hb2, -⟩ := hb.open_ (by omega)
  obtain ⟨i0, hi, hz0, hz1, hz2⟩ := info_parts rR_info
  have hs := Below.refl w.heap.size w
  have HB := Lib.hid hb
  clear ha hb
  go_enter Tryz.func84, Tryz.ntmps84
  go_wp2_with (at_builtin; refine wpList.stop ?_)
  refine ⟨?_⟩
  refine wpList.abs ?_
  intro w2 hW
  have hbb : Below w.heap.size w w2 := by rw [hW]; exact (Below.refl _ _).alloc (Nat.le_refl _) _
  have Ble : Bx w2 w.heap.size 36 #[] := by rw [hW]; exact (Bx.new0 _ _ _)
  replace hs := bStep hs hbb
  clear hW hbb
  have Opa : OwnR w.heap.size 36 3 RC w2 (.slice (some ⟨w.heap.size, 0, none⟩) 0 0) [] := OwnR.emptyR Ble (Nat.le_refl _)
  clear Ble
  obtain ⟨css, ho1, ho2, ho3, hown0⟩ := Opa
  refine Go.wpList_append_own_none rfl _ _ _ rfl w.heap.size 36 i0 3 Tryz.underlying47 hi _ _ _ rfl hown0 rfl ?_
  have Opa : OwnR w.heap.size 36 3 RC w2 (.slice (some ⟨w.heap.size, 0, none⟩) 0 0) [] := ⟨css, ho1, ho2, ho3, hown0⟩
  clear hown0 ho1 ho2 ho3 css
  generalize hsv : Value.slice (some ⟨w.heap.size, 0, none⟩) 0 0 = sv at *
  clear hsv
  go_wp2_with (at_builtin; refine wpList.stop ?_)
  refine ⟨?_⟩
  obtain ⟨css, ho1, ho2, ho3, hown0⟩ := Opa
  obtain ⟨dss, d1, d2, d3, d4, d5⟩ := rows_flatR (HB.out.mono RC.kept hs)
  refine wpList_append_lies _ rfl _ _ _ rfl w.heap.size 36 i0 _ 3 56 Tryz.underlying47 hi hz0 hz1 hz2 rfl (by omega) _ _ css.flatten rfl hown0 ⟨bb, ob, none⟩ lb.length cb dss.flatten rfl (by rw [flat_length _ d2, d1]) d5 d4 (by omega) ?_ ?_ hs.size _ rfl ?_
  · unfold maxLen; simp only [List.length_nil]; omega
  · simp only [List.length_nil]; omega
  intro g2 cap2 w5 hown1 hgrow hat hlt_
  have hk_ := KeepD.owns hown0 hgrow (by decide)
  replace hs := hs.grown hgrow hs.size (fun k hk => (hown0.lt k hk).1)
  have Opa := OwnR.pushLR ho1 ho2 ho3 d1 d2 d3 hown1 hk_
  have hR := Opa.rows
  clear Opa hown0 hown1 hgrow hat hlt_ hk_ ho1 ho2 ho3 d1 d2 d3 d4 d5 css dss
  simp only [List.length_nil, Nat.zero_add, List.nil_append] at hR ⊢
  go_wp2
  go_ret
  exact ⟨_, rfl, hR, hs⟩
end Go.Proofs.YtmnipggjjcmjkaaGreat
