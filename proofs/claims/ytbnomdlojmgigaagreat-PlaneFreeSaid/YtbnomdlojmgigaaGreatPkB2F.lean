/-
  Lists of structs in memory: of a slice that came in or goes from call to call ('Rows'), of one that the call itself fills ('OwnR'). No function of the program is in sight here.
-/
import Derived.Test.YtbnomdlojmgigaaGreatPkB1F
import Derived.RangeFuncOwn
import Derived.Deep.RegionHeld3
import Derived.Below
set_option linter.unusedSimpArgs false
set_option linter.unusedVariables false
namespace Go.Proofs.YtbnomdlojmgigaaGreat
open Go.RowKit Dg
def CellsAt (w : World) (b o : Nat) (cs : List Value) : Prop := ∀ j u, cs[j]? = some u → w.cell? ⟨b, o + j, none⟩ = some u
def Kept {α : Type} (R : World → List Value → α → Prop) : Prop := ∀ (w w' : World) (cs : List Value) (x : α), R w cs x → KeepD w w' → R w' cs x
def Rows {α : Type} (size : Nat) (T : TypeId) (R : World → List Value → α → Prop) (w : World) (v : Value) (l : List α) : Prop :=
  ∃ ao c, v = .slice ao l.length c ∧ l.length ≤ c ∧ c ≤ 9223372036854775807 ∧ (ao = none → c = 0) ∧ Lies T w ao l.length ∧
    ∀ (i : Nat) (x : α), l[i]? = some x → ∃ b o cs, ao = some ⟨b, o, none⟩ ∧ cs.length = size ∧ CellsAt w b (o + i * size) cs ∧ R w cs x
theorem CellsAt.mono {w w' : World} {b o : Nat} {cs : List Value} (h : CellsAt w b o cs) (hb : Below w.heap.size w w') : CellsAt w' b o cs := fun j u hu => cellK (h j u hu) hb
theorem CellsAt.onlyT {w w' : World} {b o : Nat} {cs : List Value} {T : TypeId} (h : CellsAt w b o cs) (ho : OnlyT T w w') (hn : ¬ TyB T w b) : CellsAt w' b o cs := fun j u hu => ho.cell (h j u hu) hn
section
variable {α : Type} {size : Nat} {T : TypeId} {R : World → List Value → α → Prop} {w w' : World} {v : Value} {l : List α}
theorem Rows.mono (hR : Kept R) (h : Rows size T R w v l) (hb : Below w.heap.size w w') : Rows size T R w' v l := by
  obtain ⟨ao, c, e, h1, h2, h3, h4, h5⟩ := h
  refine ⟨ao, c, e, h1, h2, h3, h4.mono hb, fun i x hx => ?_⟩
  obtain ⟨b, o, cs, ea, hl, hc, hr⟩ := h5 i x hx
  exact ⟨b, o, cs, ea, hl, hc.mono hb, hR _ _ _ _ hr (.of_below hb)⟩
theorem Rows.onlyT (hR : Kept R) {t : TypeId} (h : Rows size T R w v l) (ho : OnlyT t w w') (hne : t ≠ T) (hd : t ≠ 108 ∧ t ≠ 150) : Rows size T R w' v l := by
  obtain ⟨ao, c, e, h1, h2, h3, h4, h5⟩ := h
  refine ⟨ao, c, e, h1, h2, h3, fun a ha hn => ho.ty (h4 a ha hn) hne, fun i x hx => ?_⟩
  obtain ⟨b, o, cs, ea, hl, hc, hr⟩ := h5 i x hx
  have hi : i < l.length := (List.getElem?_eq_some_iff.1 hx).1
  have hb := h4 _ ea (by omega)
  exact ⟨b, o, cs, ea, hl, hc.onlyT ho (fun hT => TyB.ne hT hb hne rfl), hR _ _ _ _ hr (.of_only ho hd)⟩
theorem Rows.slice (h : Rows size T R w v l) : ∃ ao c, v = .slice ao l.length c ∧ l.length ≤ c ∧ c ≤ 9223372036854775807 ∧ (ao = none → c = 0) := by
  obtain ⟨ao, c, e, h1, h2, h3, _⟩ := h
  exact ⟨ao, c, e, h1, h2, h3⟩
theorem Rows.get (h : Rows size T R w v l) {i : Nat} {x : α} (hx : l[i]? = some x) : ∃ b o c cs, v = .slice (some ⟨b, o, none⟩) l.length c ∧ cs.length = size ∧ CellsAt w b (o + i * size) cs ∧ R w cs x := by
  obtain ⟨ao, c, e, h1, h2, h3, h4, h5⟩ := h
  obtain ⟨b, o, cs, ea, hl, hc, hr⟩ := h5 i x hx
  subst ea
  exact ⟨b, o, c, cs, e, hl, hc, hr⟩
theorem Rows.open_ (h : Rows size T R w v l) (hl : 0 < l.length) : ∃ b o c, v = .slice (some ⟨b, o, none⟩) l.length c ∧ l.length ≤ c ∧ c ≤ 9223372036854775807 ∧
    ∀ (i : Nat) (x : α), l[i]? = some x → ∃ cs, cs.length = size ∧ CellsAt w b (o + i * size) cs ∧ R w cs x := by
  obtain ⟨ao, c, e, h1, h2, h3, h4, h5⟩ := h
  obtain ⟨b, o, cs, ea, _⟩ := h5 0 (l[0]'hl) (List.getElem?_eq_getElem hl)
  subst ea
  refine ⟨b, o, c, e, h1, h2, fun i x hx => ?_⟩
  obtain ⟨b', o', cs, ea, hl, hc, hr⟩ := h5 i x hx
  cases ea
  exact ⟨cs, hl, hc, hr⟩
theorem Rows.lt {b o n c : Nat} {p : Option _} (h : Rows size T R w (.slice (some ⟨b, o, p⟩) n c) l) (hl : 0 < l.length) : b < w.heap.size := by
  obtain ⟨ao, c, e, h1, h2, h3, h4, h5⟩ := h
  injection e with e _ _
  subst e
  obtain ⟨cs, fr, h6⟩ := h4 _ rfl hl
  exact lt_of_block h6
theorem Rows.take (h : Rows size T R w v l) (k : Nat) : ∀ ao n c, v = .slice ao n c → k ≤ n → Rows size T R w (.slice ao k c) (l.take k) := by
  intro ao n c e hk
  obtain ⟨ao', c', e', h1, h2, h3, h4, h5⟩ := h
  rw [e] at e'
  injection e' with ea en ec
  subst ea en ec
  have hl : (l.take k).length = k := by rw [List.length_take]; omega
  refine ⟨ao, c, by rw [hl], by omega, h2, h3, h4.take (by omega), fun i x hx => ?_⟩
  rw [List.getElem?_take] at hx
  split at hx
  · exact h5 i x hx
  · cases hx
end
def RowsI {α : Type} (size : Nat) (R : World → List Value → α → Prop) (w : World) (v : Value) (l : List α) : Prop :=
  ∃ ao c, v = .slice ao l.length c ∧ l.length ≤ c ∧ c ≤ 9223372036854775807 ∧ (ao = none → c = 0) ∧
    ∀ (i : Nat) (x : α), l[i]? = some x → ∃ b o cs, ao = some ⟨b, o, none⟩ ∧ cs.length = size ∧ CellsAt w b (o + i * size) cs ∧ R w cs x
section
variable {α : Type} {size : Nat} {T : TypeId} {R : World → List Value → α → Prop} {w w' : World} {v : Value} {l : List α}
theorem Rows.toI (h : Rows size T R w v l) : RowsI size R w v l := by
  obtain ⟨ao, c, e, h1, h2, h3, _, h5⟩ := h
  exact ⟨ao, c, e, h1, h2, h3, h5⟩
theorem RowsI.mono (hR : Kept R) (h : RowsI size R w v l) (hb : Below w.heap.size w w') : RowsI size R w' v l := by
  obtain ⟨ao, c, e, h1, h2, h3, h5⟩ := h
  refine ⟨ao, c, e, h1, h2, h3, fun i x hx => ?_⟩
  obtain ⟨b, o, cs, ea, hl, hc, hr⟩ := h5 i x hx
  exact ⟨b, o, cs, ea, hl, hc.mono hb, hR _ _ _ _ hr (.of_below hb)⟩
theorem RowsI.slice (h : RowsI size R w v l) : ∃ ao c, v = .slice ao l.length c ∧ l.length ≤ c ∧ c ≤ 9223372036854775807 ∧ (ao = none → c = 0) := by
  obtain ⟨ao, c, e, h1, h2, h3, _⟩ := h
  exact ⟨ao, c, e, h1, h2, h3⟩
theorem RowsI.get (h : RowsI size R w v l) {i : Nat} {x : α} (hx : l[i]? = some x) : ∃ b o c cs, v = .slice (some ⟨b, o, none⟩) l.length c ∧ cs.length = size ∧ CellsAt w b (o + i * size) cs ∧ R w cs x := by
  obtain ⟨ao, c, e, h1, h2, h3, h5⟩ := h
  obtain ⟨b, o, cs, ea, hl, hc, hr⟩ := h5 i x hx
  subst ea
  exact ⟨b, o, c, cs, e, hl, hc, hr⟩
end
theorem flat_get {size : Nat} : ∀ (css : List (List Value)), (∀ cs ∈ css, cs.length = size) → ∀ (i j : Nat) (cs : List Value), css[i]? = some cs → j < size → css.flatten[i * size + j]? = cs[j]?
  | [], _, i, j, cs, h, _ => by simp at h
  | c :: r, hs, i, j, cs, h, hj => by
    have hc : c.length = size := hs c (by simp)
    match i with
    | 0 =>
      simp only [List.getElem?_cons_zero, Option.some.injEq] at h
      subst h
      rw [List.flatten_cons, List.getElem?_append_left (by omega), Nat.zero_mul, Nat.zero_add]
    | i + 1 =>
      rw [List.getElem?_cons_succ] at h
      rw [List.flatten_cons, List.getElem?_append_right (by rw [hc, Nat.succ_mul]; omega)]
      rw [show (i + 1) * size + j - c.length = i * size + j from by rw [hc, Nat.succ_mul]; omega]
      exact flat_get r (fun x hx => hs x (List.mem_cons_of_mem _ hx)) i j cs h hj
theorem flat_length {size : Nat} : ∀ (css : List (List Value)), (∀ cs ∈ css, cs.length = size) → css.flatten.length = css.length * size
  | [], _ => by simp
  | c :: r, hs => by
    rw [List.flatten_cons, List.length_append, hs c (by simp), flat_length r (fun x hx => hs x (List.mem_cons_of_mem _ hx)), List.length_cons, Nat.succ_mul]
    omega
def OwnR {α : Type} (base : Nat) (T : TypeId) (size : Nat) (R : World → List Value → α → Prop) (w : World) (v : Value) (l : List α) : Prop :=
  ∃ css : List (List Value), css.length = l.length ∧ (∀ cs ∈ css, cs.length = size) ∧ (∀ (i : Nat) (cs : List Value) (x : α), css[i]? = some cs → l[i]? = some x → R w cs x) ∧ w.ownsRow base T size v l.length css.flatten
section
variable {α : Type} {base : Nat} {size : Nat} {T : TypeId} {R : World → List Value → α → Prop} {w w' : World} {v : Value} {l : List α}
theorem OwnR.nil (w : World) (base : Nat) (T : TypeId) (size : Nat) (R : World → List Value → α → Prop) : OwnR base T size R w (.slice none 0 0) [] :=
  ⟨[], rfl, by simp, by simp, World.ownsRow_nil _ _ _ _⟩
theorem OwnR.own (h : OwnR base T size R w v l) : ∃ xs, w.ownsRow base T size v l.length xs := by
  obtain ⟨css, _, _, _, h⟩ := h
  exact ⟨_, h⟩
theorem OwnR.slice (h : OwnR base T size R w v l) : ∃ ao c, v = .slice ao l.length c ∧ l.length ≤ c ∧ c ≤ 9223372036854775807 ∧ (ao = none → c = 0) := by
  obtain ⟨css, _, _, _, h⟩ := h
  exact owns_slice h
theorem OwnR.mono (hR : Kept R) (h : OwnR base T size R w v l) (hb : Below w.heap.size w w') : OwnR base T size R w' v l := by
  obtain ⟨css, h1, h2, h3, h4⟩ := h
  exact ⟨css, h1, h2, fun i cs x hc hx => hR _ _ _ _ (h3 i cs x hc hx) (.of_below hb), owns_below h4 hb⟩
theorem OwnR.onlyT (hR : Kept R) {t : TypeId} (h : OwnR base T size R w v l) (ho : OnlyT t w w') (hne : t ≠ T) (hd : t ≠ 108 ∧ t ≠ 150) : OwnR base T size R w' v l := by
  obtain ⟨css, h1, h2, h3, h4⟩ := h
  exact ⟨css, h1, h2, fun i cs x hc hx => hR _ _ _ _ (h3 i cs x hc hx) (.of_only ho hd), owns_other h4 ho hne⟩
theorem OwnR.grown (hR : Kept R) (h : OwnR base T size R w v l) {row : Option Nat} (hg : w.grownBy w' row) (hne : v.ownBlock = none ∨ v.ownBlock ≠ row) (hk : KeepD w w') : OwnR base T size R w' v l := by
  obtain ⟨css, h1, h2, h3, h4⟩ := h
  exact ⟨css, h1, h2, fun i cs x hc hx => hR _ _ _ _ (h3 i cs x hc hx) hk, h4.kept hg hne⟩
theorem OwnR.rows (h : OwnR base T size R w v l) : Rows size T R w v l := by
  obtain ⟨css, h1, h2, h3, h4⟩ := h
  obtain ⟨ao, c, e, hc1, hc2, hc3⟩ := owns_slice h4
  subst e
  refine ⟨ao, c, rfl, hc1, hc2, hc3, fun a ea hn => ?_, fun i x hx => ?_⟩
  · exact owns_ty h4 (by rw [ea]; rfl)
  · have hi : i < l.length := (List.getElem?_eq_some_iff.1 hx).1
    obtain ⟨g, c', hv, _, _⟩ := h4.form (by omega)
    injection hv with hv _ _
    subst hv
    have hcs : css[i]? = some (css[i]'(by omega)) := List.getElem?_eq_getElem (by omega)
    refine ⟨g, 0, css[i]'(by omega), rfl, h2 _ (List.getElem_mem _), fun j u hu => ?_, h3 i _ x hcs hx⟩
    have hj : j < size := by
      have := (List.getElem?_eq_some_iff.1 hu).1
      rw [h2 _ (List.getElem_mem _)] at this
      exact this
    have hf := flat_get css h2 i j _ hcs hj
    rw [hu] at hf
    have := h4.cells (g := g) rfl _ _ hf
    rw [add_plain, ← Nat.add_assoc] at this
    exact this
theorem OwnR.push (hR : Kept R) {css : List (List Value)} (h1 : css.length = l.length) (h2 : ∀ cs ∈ css, cs.length = size) (h3 : ∀ (i : Nat) (cs : List Value) (x : α), css[i]? = some cs → l[i]? = some x → R w cs x) {v' : Value} {cs : List Value} {x : α} (hl : cs.length = size) (hx : R w cs x)
    (hown : w'.ownsRow base T size v' (l.length + 1) (css.flatten ++ cs)) (hk : KeepD w w') : OwnR base T size R w' v' (l ++ [x]) := by
  refine ⟨css ++ [cs], by simp [h1], ?_, ?_, ?_⟩
  · intro c hc
    rcases List.mem_append.1 hc with h | h
    · exact h2 c h
    · simp at h; rw [h]; exact hl
  · intro i c y hc hy
    by_cases hi : i < l.length
    · rw [List.getElem?_append_left (by omega)] at hc
      rw [List.getElem?_append_left hi] at hy
      exact hR _ _ _ _ (h3 i c y hc hy) hk
    · have hi' : i = l.length := by
        have := (List.getElem?_eq_some_iff.1 hy).1
        simp at this
        omega
      subst hi'
      rw [List.getElem?_append_right (by omega), h1] at hc
      rw [List.getElem?_append_right (Nat.le_refl _)] at hy
      simp at hc hy
      subst hc hy
      exact hR _ _ _ _ hx hk
  · simpa using hown
end
end Go.Proofs.YtbnomdlojmgigaaGreat
namespace Go.Proofs.YtbnomdlojmgigaaGreat
abbrev Pt := Int × Int
def ptZ (l : List Pt) (i : Nat) : Pt := l.getD i (0, 0)
def crZ (a b : Pt) : Int := a.1 * b.2 - a.2 * b.1
def dtZ (a b : Pt) : Int := a.1 * b.1 + a.2 * b.2
def mnZ (a b : Pt) : Pt := (a.1 - b.1, a.2 - b.2)
def sgZ (n : Int) : Int := if n < 0 then -1 else if 0 < n then 1 else 0
def sdZ (a b c : Pt) : Int := sgZ (crZ (mnZ b a) (mnZ c a))
def tnZ (a b c : Pt) : Int := (b.1 - a.1) * (c.2 - a.2) - (b.2 - a.2) * (c.1 - a.1)
def hsZ (a b q : Pt) : Bool := decide (sdZ a b q = 0) && decide (dtZ (mnZ a q) (mnZ b q) ≤ 0)
def onZ (a b c : Pt) : Bool := decide (tnZ a b c = 0) && (decide (min a.1 b.1 ≤ c.1) && (decide (c.1 ≤ max a.1 b.1) && (decide (min a.2 b.2 ≤ c.2) && decide (c.2 ≤ max a.2 b.2))))
def meZ (a b c d : Pt) : Bool := (hsZ a b c || (hsZ a b d || (hsZ c d a || hsZ c d b))) || (decide (sdZ a b c * sdZ a b d < 0) && decide (sdZ c d a * sdZ c d b < 0))
def mtZ (a b c d : Pt) : Bool := (onZ a b c || (onZ a b d || (onZ c d a || onZ c d b))) || (decide (sgZ (tnZ a b c) * sgZ (tnZ a b d) < 0) && decide (sgZ (tnZ c d a) * sgZ (tnZ c d b) < 0))
end Go.Proofs.YtbnomdlojmgigaaGreat
namespace Go.Proofs.YtbnomdlojmgigaaGreat
def rtB (p : Pt) : Bool := decide (-1048576 ≤ p.1) && decide (p.1 ≤ 1048576) && (decide (-1048576 ≤ p.2) && decide (p.2 ≤ 1048576))
def foldP (l : List Pt) (i : Nat) : Bool :=
  decide (crZ (mnZ (ptZ l ((i + l.length - 1) % l.length)) (ptZ l i)) (mnZ (ptZ l ((i + 1) % l.length)) (ptZ l i)) = 0) && decide (0 ≤ dtZ (mnZ (ptZ l ((i + l.length - 1) % l.length)) (ptZ l i)) (mnZ (ptZ l ((i + 1) % l.length)) (ptZ l i)))
def foldR (l : List Pt) (i : Nat) : Bool :=
  decide (tnZ (ptZ l i) (ptZ l ((i + 1) % l.length)) (ptZ l ((i + 1 + 1) % l.length)) = 0) && decide (0 ≤ dtZ (mnZ (ptZ l i) (ptZ l ((i + 1) % l.length))) (mnZ (ptZ l ((i + 1 + 1) % l.length)) (ptZ l ((i + 1) % l.length))))
def pairP (l : List Pt) (i k : Nat) : Bool := decide (i + 1 < k) && (!(decide (i = 0) && decide (k = l.length - 1)) && meZ (ptZ l i) (ptZ l ((i + 1) % l.length)) (ptZ l k) (ptZ l ((k + 1) % l.length)))
def pairR (l : List Pt) (i k : Nat) : Bool := decide (i + 2 ≤ k) && (decide ((k + 1) % l.length ≠ i) && mtZ (ptZ l i) (ptZ l ((i + 1) % l.length)) (ptZ l k) (ptZ l ((k + 1) % l.length)))
def badP (l : List Pt) (i : Nat) : Bool := foldP l i || (List.range l.length).any (pairP l i)
def badR (l : List Pt) (i : Nat) : Bool := foldR l i || (List.range l.length).any (pairR l i)
def chkE (l : List Pt) : Int := if l.length < 3 then 4 else if 16 < l.length then 4 else if l.all rtB = true then (if (List.range l.length).any (badP l) = true then 20 else 0) else 1
def valE (l : List Pt) : Int := if l.length < 3 then 4 else if 16 < l.length then 4 else if l.all rtB = true then (if (List.range l.length).any (badR l) = true then 20 else 0) else 1
end Go.Proofs.YtbnomdlojmgigaaGreat
namespace Go.Proofs.YtbnomdlojmgigaaGreat
open Go.RowKit Dg
def IP (_ : World) (cs : List Value) (x : Pt) : Prop := cs = [.int .i64 x.1, .int .i64 x.2]
def IE (_ : World) (cs : List Value) (x : Pt × Pt) : Prop := cs = [.int .i64 x.1.1, .int .i64 x.1.2, .int .i64 x.2.1, .int .i64 x.2.2]
theorem IP.kept : Kept IP := fun _ _ _ _ h _ => h
theorem IE.kept : Kept IE := fun _ _ _ _ h _ => h
abbrev Pts (w : World) (v : Value) (l : List Pt) : Prop := RowsI 2 IP w v l
abbrev Bxs (w : World) (v : Value) (l : List (Pt × Pt)) : Prop := RowsI 4 IE w v l
theorem pt_some {l : List Pt} {k : Nat} (h : k < l.length) : l[k]? = some (ptZ l k) := by
  unfold ptZ; rw [List.getD_eq_getElem?_getD, List.getElem?_eq_getElem h]; rfl
theorem lt_cell {w : World} {a : Addr} {v : Value} (h : w.cell? a = some v) : a.block < w.heap.size := by
  obtain ⟨o, ho, _⟩ := cells_of_cell h
  exact (Array.getElem?_eq_some_iff.1 ho).1
theorem rowI_open {α : Type} {size : Nat} {R : World → List Value → α → Prop} {w : World} {v : Value} {l : List α} (h : RowsI size R w v l) (hl : 0 < l.length) : ∃ b o c, v = .slice (some ⟨b, o, none⟩) l.length c ∧ l.length ≤ c ∧ c ≤ 9223372036854775807 := by
  obtain ⟨ao, c, e, h1, h2, h3⟩ := h.slice
  obtain ⟨b', o', c', cs, e', _⟩ := h.get (List.getElem?_eq_getElem hl)
  subst e
  injection e' with e1 _ _
  subst e1
  exact ⟨b', o', c, rfl, h1, h2⟩
theorem rowIP_at {w : World} {b o n c : Nat} {l : List Pt} (h : Pts w (.slice (some ⟨b, o, none⟩) n c) l) {k : Nat} (hk : k < l.length) :
    w.cell? ⟨b, o + k * 2, none⟩ = some (.int .i64 (ptZ l k).1) ∧ w.cell? ⟨b, o + k * 2 + 1, none⟩ = some (.int .i64 (ptZ l k).2) ∧ b < w.heap.size := by
  obtain ⟨b', o', c', cs, e, hlen, hat, rfl⟩ := h.get (pt_some hk)
  injection e with e1 _ _
  injection e1 with e1
  injection e1 with e2 e3 _
  subst e2 e3
  have h0 := hat 0 _ rfl
  exact ⟨h0, hat 1 _ rfl, lt_cell h0⟩
theorem rowIE_at {w : World} {b o n c : Nat} {l : List (Pt × Pt)} (h : Bxs w (.slice (some ⟨b, o, none⟩) n c) l) {k : Nat} (hk : k < l.length) :
    w.cell? ⟨b, o + k * 4, none⟩ = some (.int .i64 (l.getD k ((0, 0), (0, 0))).1.1) ∧ w.cell? ⟨b, o + k * 4 + 1, none⟩ = some (.int .i64 (l.getD k ((0, 0), (0, 0))).1.2) ∧ w.cell? ⟨b, o + k * 4 + 2, none⟩ = some (.int .i64 (l.getD k ((0, 0), (0, 0))).2.1) ∧
      w.cell? ⟨b, o + k * 4 + 3, none⟩ = some (.int .i64 (l.getD k ((0, 0), (0, 0))).2.2) ∧ b < w.heap.size := by
  have hx : l[k]? = some (l.getD k ((0, 0), (0, 0))) := by rw [List.getD_eq_getElem?_getD, List.getElem?_eq_getElem hk]; rfl
  obtain ⟨b', o', c', cs, e, hlen, hat, rfl⟩ := h.get hx
  injection e with e1 _ _
  injection e1 with e1
  injection e1 with e2 e3 _
  subst e2 e3
  have h0 := hat 0 _ rfl
  exact ⟨h0, hat 1 _ rfl, hat 2 _ rfl, hat 3 _ rfl, lt_cell h0⟩
def Wn (B x : Int) : Prop := -B ≤ x ∧ x ≤ B
theorem Wn.lit {B x : Int} (h : -B ≤ x) (k : x ≤ B) : Wn B x := ⟨h, k⟩
theorem Wn.mono {A B x : Int} (h : Wn A x) (hb : A ≤ B) : Wn B x := ⟨by have := h.1; omega, by have := h.2; omega⟩
theorem Wn.add {A B x y : Int} (h : Wn A x) (k : Wn B y) : Wn (A + B) (x + y) := ⟨by have := h.1; have := k.1; omega, by have := h.2; have := k.2; omega⟩
theorem Wn.sub {A B x y : Int} (h : Wn A x) (k : Wn B y) : Wn (A + B) (x - y) := ⟨by have := h.1; have := k.2; omega, by have := h.2; have := k.1; omega⟩
theorem Wn.neg {A x : Int} (h : Wn A x) : Wn A (-x) := ⟨by have := h.2; omega, by have := h.1; omega⟩
theorem Wn.nn {A x : Int} (h : Wn A x) : 0 ≤ A := by have := h.1; have := h.2; omega
theorem Wn.abs {A x : Int} (h : Wn A x) : (x.natAbs : Int) ≤ A := by have := h.1; have := h.2; omega
theorem Wn.of_abs {A x : Int} (h : (x.natAbs : Int) ≤ A) : Wn A x := ⟨by omega, by omega⟩
theorem Wn.mul {A B x y : Int} (h : Wn A x) (k : Wn B y) : Wn (A * B) (x * y) := by
  refine Wn.of_abs ?_
  rw [Int.natAbs_mul, Int.natCast_mul]
  exact Int.mul_le_mul h.abs k.abs (Int.natCast_nonneg _) h.nn
theorem Wn.min {A x y : Int} (h : Wn A x) (k : Wn A y) : Wn A (Min.min x y) := ⟨by have := h.1; have := k.1; omega, by have := h.2; have := k.2; omega⟩
theorem Wn.max {A x y : Int} (h : Wn A x) (k : Wn A y) : Wn A (Max.max x y) := ⟨by have := h.1; have := k.1; omega, by have := h.2; have := k.2; omega⟩
theorem Wn.wrap {A x : Int} (h : Wn A x) (hA : A ≤ 9223372036854775807) : IntKind.i64.wrap x = x := IntWalk.i64_in x (by have := h.1; have := h.2; omega)
theorem Wn.wsub {A B x y : Int} (h : Wn A x) (k : Wn B y) (hA : A + B ≤ 9223372036854775807) : IntKind.i64.wrap (x - y) = x - y := (h.sub k).wrap hA
theorem Wn.wadd {A B x y : Int} (h : Wn A x) (k : Wn B y) (hA : A + B ≤ 9223372036854775807) : IntKind.i64.wrap (x + y) = x + y := (h.add k).wrap hA
theorem Wn.wmul {A B x y : Int} (h : Wn A x) (k : Wn B y) (hA : A * B ≤ 9223372036854775807) : IntKind.i64.wrap (x * y) = x * y := (h.mul k).wrap hA
theorem Wn.lo {A B x : Int} (h : Wn A x) (hA : A ≤ B) : -B ≤ x := by have := h.1; omega
theorem Wn.lo64 {A x : Int} (h : Wn A x) (hA : A ≤ 9223372036854775807) : -9223372036854775808 ≤ x := by have := h.1; omega
theorem Wn.hi {A B x : Int} (h : Wn A x) (hA : A ≤ B) : x ≤ B := by have := h.2; omega
theorem Wn.out {A x : Int} (h : Wn A x) : -A ≤ x ∧ x ≤ A := h
abbrev WP (B : Int) (p : Pt) : Prop := Wn B p.1 ∧ Wn B p.2
theorem WP.mono {A B : Int} {p : Pt} (h : WP A p) (hb : A ≤ B) : WP B p := ⟨h.1.mono hb, h.2.mono hb⟩
theorem WP.mn {A B : Int} {p q : Pt} (h : WP A p) (k : WP B q) : WP (A + B) (mnZ p q) := ⟨h.1.sub k.1, h.2.sub k.2⟩
theorem WP.cr {A B : Int} {p q : Pt} (h : WP A p) (k : WP B q) : Wn (A * B + A * B) (crZ p q) := (h.1.mul k.2).sub (h.2.mul k.1)
theorem rt_wp {p : Pt} (h : rtB p = true) : WP 1048576 p := by
  unfold rtB at h
  simp only [Bool.and_eq_true, decide_eq_true_eq] at h
  exact ⟨h.1, h.2⟩
theorem WP.pt {B : Int} (hB : 0 ≤ B) {l : List Pt} (h : ∀ p ∈ l, WP B p) (k : Nat) : WP B (ptZ l k) := by
  by_cases hk : k < l.length
  · exact h _ (List.mem_of_getElem? (pt_some hk))
  · unfold ptZ; rw [List.getD_eq_getElem?_getD, List.getElem?_eq_none (by omega)]; exact ⟨⟨show -B ≤ (0 : Int) by omega, show (0 : Int) ≤ B by omega⟩, ⟨show -B ≤ (0 : Int) by omega, show (0 : Int) ≤ B by omega⟩⟩
theorem Bx.set2 {w : World} {g : Nat} {t : TypeId} {a b x y : Value} (h : Bx w g t #[a, b]) : Bx ((w.setCell ⟨g, 0, none⟩ x).setCell ⟨g, 1, none⟩ y) g t #[x, y] := (h.set 0 _ rfl).set 1 _ rfl
end Go.Proofs.YtbnomdlojmgigaaGreat
namespace Go.Proofs.YtbnomdlojmgigaaGreat
open Go
section
variable {P : Program} {ops : Array Oper} {Q : Exit → Act → World → Prop} {md : Region.Mode} {S : World → Prop} {m : Nat}
def AnyU (P : Program) (md : Region.Mode) (ops : Array Oper) (Q : Exit → Act → World → Prop) (S : World → Prop) (m : Nat) : Nat → Array Bool → Act → World → Prop
  | 0, listed, a, w => Region.ready md ops listed = [] ∧ Q .normal a w
  | fuel + 1, listed, a, w =>
    (Region.ready md ops listed = [] → Q .normal a w) ∧
    ∀ i ∈ Region.ready md ops listed, wpOp P ops Q i (fun a' w' => (i = m ∨ S w') ∧ AnyU P md ops Q S m fuel (listed.setIfInBounds i true) a' w') a w
theorem AnyU.abs {fuel : Nat} {listed : Array Bool} {a : Act} {w : World} (h : ∀ w', w' = w → AnyU P md ops Q S m fuel listed a w') : AnyU P md ops Q S m fuel listed a w := h w rfl
theorem any_of_U : ∀ (fuel : Nat) (listed : Array Bool) (a : Act) (w : World), AnyU P md ops Q S m fuel listed a w → wpAny P md ops Q fuel listed a w
  | 0, _, _, _, h => h
  | fuel + 1, _, _, _, h => ⟨h.1, fun i hi => wpOp_mono (fun a' w' h' => any_of_U fuel _ a' w' h'.2) (h.2 i hi)⟩
def waitsFor (md : Region.Mode) (ops : Array Oper) (m i : Nat) : Bool := ((ops[m]?).map fun o => o.after.any fun e => Region.binds md e && e.on == i).getD false
theorem not_ready_of_waits {listed : Array Bool} {i : Nat} (hw : waitsFor md ops m i = true) (hi : i ∈ Region.ready md ops listed) : ¬ m ∈ Region.ready md ops listed := by
  intro hm
  obtain ⟨_, om, hom, hall⟩ := mem_ready.1 hm
  unfold waitsFor at hw
  rw [hom] at hw
  simp only [Option.map_some, Option.getD_some, Array.any_eq_true, Bool.and_eq_true, beq_iff_eq] at hw
  obtain ⟨k, hk, hb, he⟩ := hw
  have h1 := hall _ (Array.getElem_mem hk) hb
  have h0 := (mem_ready.1 hi).1
  rw [he] at h1
  rcases Nat.lt_or_ge i listed.size with h' | h'
  · simp [h'] at h0 h1; rw [h0] at h1; cases h1
  · simp [Array.getElem?_eq_none h'] at h1
theorem U_first {i : Nat} {oi : Oper} {v : Value} (hi : ops[i]? = some oi) (hwt : waitsFor md ops m i = true) (hsel : ∀ (j : Nat) (o : Oper) cs b, ops[j]? = some o → o.op ≠ .select cs b)
    (hQ : ∀ c a w, Q (.panic c) (a.put oi.dst v) w → Q (.panic c) a w) :
    ∀ (fuel : Nat) (listed : Array Bool) (a : Act) (w : World),
      (∀ j oj, ops[j]? = some oj → j ≠ i → listed.getD j true = false → (∀ e ∈ oj.after, Region.binds md e = true → e.on ≠ i) → oi.apart ops oj = true) →
      i ∈ Region.ready md ops listed → YieldsIf P ops S oi v a → S w →
      AnyU P md ops Q S m fuel (listed.setIfInBounds i true) (a.put oi.dst v) w → AnyU P md ops Q S m (fuel + 1) listed a w := by
  intro fuel
  induction fuel with
  | zero =>
    intro listed a w _ hr hy hS H
    refine ⟨fun h => (by rw [h] at hr; cases hr), fun j hj => ?_⟩
    by_cases hji : j = i
    · subst hji; exact hy.wpOp hi hS ⟨.inr hS, H⟩
    · have := ready_mono hj hji
      rw [H.1] at this
      cases this
  | succ fuel ih =>
    intro listed a w hfree hr hy hS H
    refine ⟨fun h => (by rw [h] at hr; cases hr), fun j hj => ?_⟩
    by_cases hji : j = i
    · subst hji; exact hy.wpOp hi hS ⟨.inr hS, H⟩
    · have hjm : j ≠ m := fun e => not_ready_of_waits hwt hr (e ▸ hj)
      have h1 := H.2 j (ready_mono hj hji)
      obtain ⟨hjun, oj, hoj, hall⟩ := mem_ready.1 hj
      have hnot : ∀ e ∈ oj.after, Region.binds md e = true → e.on ≠ i := fun e he hb heq => by
        have h1 := hall e he hb
        have h0 := (mem_ready.1 hr).1
        rw [heq] at h1
        rcases Nat.lt_or_ge i listed.size with h' | h'
        · simp [h'] at h0 h1; rw [h0] at h1; cases h1
        · simp [Array.getElem?_eq_none h'] at h1
      have h2 := wpOp_putIf hoj (hfree j oj hoj hji hjun hnot) (fun cs b => hsel i oi cs b hi) (fun cs b => hsel j oj cs b hoj) hQ hy h1
      have hfree' : ∀ k ok, ops[k]? = some ok → k ≠ i → (listed.setIfInBounds j true).getD k true = false →
          (∀ e ∈ ok.after, Region.binds md e = true → e.on ≠ i) → oi.apart ops ok = true := fun k ok hk hki hun hno => by
        refine hfree k ok hk hki ?_ hno
        by_cases hjk : j = k
        · subst hjk; exact hjun
        · rw [getD_set_ne true hjk] at hun; exact hun
      refine wpOp_mono (fun a' w' h3 => ⟨.inr (h3.2.1.resolve_left hjm), ih (listed.setIfInBounds j true) a' w' hfree' (ready_mono hr (Ne.symm hji)) h3.1 (h3.2.1.resolve_left hjm) ?_⟩) h2
      rw [Array.setIfInBounds_comm _ _ hji]
      exact h3.2.2
theorem U_take {i : Nat} {oi : Oper} {v : Value} {fuel : Nat} {listed : Array Bool} {a : Act} {w : World} (hi : ops[i]? = some oi) (hwt : waitsFor md ops m i = true)
    (hs : Region.noSelect ops = true) (hf : Region.free md ops listed i = true) (hr : (Region.ready md ops listed).contains i = true)
    (hQ : ∀ c a w, Q (.panic c) (a.put oi.dst v) w → Q (.panic c) a w) (hy : YieldsIf P ops S oi v a) (hS : S w)
    (h : AnyU P md ops Q S m fuel (listed.setIfInBounds i true) (a.put oi.dst v) w) : AnyU P md ops Q S m (fuel + 1) listed a w :=
  U_first hi hwt (Region.noSelect_spec hs) hQ fuel listed a w (Region.free_spec hi hf) (by simpa using hr) hy hS h
theorem U_one {i : Nat} {o : Oper} {fuel : Nat} {listed : Array Bool} {a : Act} {w : World} (hr : Region.ready md ops listed = [i]) (ho : ops[i]? = some o)
    (h : ∀ K' : Act → World → Prop, Shut (∀ a w, S w → (S w → AnyU P md ops Q S m fuel (listed.setIfInBounds i true) a w) → K' a w) → if Region.wanted o (yielded ops a.tmps) = true then Oper.wp P o a w K' Q else K' (a.put o.dst undef) w) :
    AnyU P md ops Q S m (fuel + 1) listed a w := by
  refine ⟨fun h0 => (by rw [h0] at hr; cases hr), fun j hj => ?_⟩
  rw [hr] at hj
  simp only [List.mem_singleton] at hj
  subst hj
  exact wpOp_step ho (fun K' hK => h K' (fun a w hS hW => hK a w ⟨.inr hS, hW hS⟩))
theorem U_two {i j : Nat} {oi oj : Oper} {fuel : Nat} {listed : Array Bool} {a : Act} {w : World} (hr : Region.ready md ops listed = [i, j]) (hi : ops[i]? = some oi) (hj : ops[j]? = some oj)
    (h1 : ∀ K' : Act → World → Prop, Shut (∀ a w, S w → (S w → AnyU P md ops Q S m fuel (listed.setIfInBounds i true) a w) → K' a w) → if Region.wanted oi (yielded ops a.tmps) = true then Oper.wp P oi a w K' Q else K' (a.put oi.dst undef) w)
    (h2 : ∀ K' : Act → World → Prop, Shut (∀ a w, S w → (S w → AnyU P md ops Q S m fuel (listed.setIfInBounds j true) a w) → K' a w) → if Region.wanted oj (yielded ops a.tmps) = true then Oper.wp P oj a w K' Q else K' (a.put oj.dst undef) w) :
    AnyU P md ops Q S m (fuel + 1) listed a w := by
  refine ⟨fun h0 => (by rw [h0] at hr; cases hr), fun k hk => ?_⟩
  rw [hr] at hk
  simp only [List.mem_cons, List.mem_nil_iff, or_false] at hk
  rcases hk with rfl | rfl
  · exact wpOp_step hi (fun K' hK => h1 K' (fun a w hS hW => hK a w ⟨.inr hS, hW hS⟩))
  · exact wpOp_step hj (fun K' hK => h2 K' (fun a w hS hW => hK a w ⟨.inr hS, hW hS⟩))
theorem U_last {o : Oper} {fuel : Nat} {listed : Array Bool} {a : Act} {w : World} (hr : Region.ready md ops listed = [m]) (ho : ops[m]? = some o)
    (hr' : Region.ready md ops (listed.setIfInBounds m true) = [])
    (h : ∀ K' : Act → World → Prop, Shut (∀ a w, (∀ w', w' = w → Q .normal a w') → K' a w) → if Region.wanted o (yielded ops a.tmps) = true then Oper.wp P o a w K' Q else K' (a.put o.dst undef) w) :
    AnyU P md ops Q S m (fuel + 1) listed a w := by
  refine ⟨fun h0 => (by rw [h0] at hr; cases hr), fun j hj => ?_⟩
  rw [hr] at hj
  simp only [List.mem_singleton] at hj
  subst hj
  refine wpOp_step ho (fun K' hK => h K' (fun a w hq => hK a w ⟨.inl rfl, ?_⟩))
  have hq := hq w rfl
  cases fuel with
  | zero => exact ⟨hr', hq⟩
  | succ n => exact ⟨fun _ => hq, by rw [hr']; simp⟩
theorem U_region {id : Nat} {a : Act} {w : World} (hm : P.follows .mixedOrders = true) (m : Nat)
    (h : AnyU P .any ops Q S m ops.size (Array.replicate ops.size false) a w.drew) : (Code.region id ops true).wp P Q a w :=
  wp_region_any hm (any_of_U _ _ _ _ h)
end
end Go.Proofs.YtbnomdlojmgigaaGreat
namespace Go.Proofs.YtbnomdlojmgigaaGreat
open Go.RowKit Dg
structure Gr (gs : List Nat) (w w' : World) : Prop where
  os : w'.os = w.os
  tape : w'.tape = w.tape
  output : w'.output = w.output
  size : w.heap.size ≤ w'.heap.size
  block : ∀ k, k < w.heap.size → k ∉ gs → w'.heap[k]? = w.heap[k]?
def NoD (w : World) : List Nat → Prop
  | [] => True
  | g :: r => (∃ T, TyB T w g ∧ (T ≠ 108 ∧ T ≠ 150)) ∧ NoD w r
theorem NoD.get {w : World} : ∀ {gs : List Nat}, NoD w gs → ∀ g ∈ gs, ∃ T, TyB T w g ∧ (T ≠ 108 ∧ T ≠ 150)
  | _ :: _, h, g, hg => by
    rcases List.mem_cons.1 hg with rfl | hg
    · exact h.1
    · exact NoD.get h.2 g hg
section
variable {gs : List Nat} {a w : World}
theorem Gr.refl (gs : List Nat) (w : World) : Gr gs w w := ⟨rfl, rfl, rfl, Nat.le_refl _, fun _ _ _ => rfl⟩
theorem Gr.set (h : Gr gs a w) {p : Addr} {u : Value} (hp : p.block ∈ gs := by first | exact .head _ | exact .tail _ (.head _) | exact .tail _ (.tail _ (.head _))) : Gr gs a (w.setCell p u) :=
  ⟨h.os, h.tape, h.output, by simpa [World.setCell] using h.size, fun k hk hn => (Below.heap_setCell _ _ _ _ (fun e => hn (by rw [e]; exact hp))).trans (h.block k hk hn)⟩
theorem Gr.alloc (h : Gr gs a w) {o : Obj} : Gr gs a (w.alloc o) :=
  ⟨h.os, h.tape, h.output, by have := h.size; simp; omega, fun k hk hn => (Below.heap_alloc _ _ _ (by have := h.size; omega)).trans (h.block k hk hn)⟩
theorem Gr.drew (h : Gr gs a w) : Gr gs a w.drew := ⟨h.os, h.tape, h.output, h.size, h.block⟩
theorem Gr.below {B : Nat} (h : Gr gs a w) (hB : B ≤ a.heap.size) (hg : ∀ g ∈ gs, B ≤ g) : Below B a w :=
  ⟨h.os, h.tape, h.output, h.size, fun k hk => h.block k (by omega) (fun hm => by have := hg k hm; omega)⟩
theorem Gr.below0 {B : Nat} (h : Gr [] a w) (hB : B ≤ a.heap.size) : Below B a w := h.below hB (fun _ hg => by cases hg)
theorem Gr.below1 {B g : Nat} (h : Gr [g] a w) (hB : B ≤ a.heap.size) (h1 : B ≤ g) : Below B a w := h.below hB (fun x hx => by cases hx with | head => exact h1 | tail _ h => cases h)
theorem Gr.keep (h : Gr gs a w) (hd : NoD a gs) : KeepD a w :=
  ⟨h.size, fun k t hk ht => h.block k hk.lt (fun hm => by
    obtain ⟨T, hT, h1, h2⟩ := hd.get k hm
    rcases ht with rfl | rfl
    · exact TyB.ne hT hk h1 rfl
    · exact TyB.ne hT hk h2 rfl)⟩
theorem Gr.bx {g : Nat} {t : TypeId} {cs : Array Value} (h : Gr gs a w) (hx : Bx a g t cs) (hn : g ∉ gs) : Bx w g t cs := (h.block g hx.lt hn).trans hx
theorem Gr.cell {p : Addr} {v : Value} (h : Gr gs a w) (hc : a.cell? p = some v) (hn : p.block ∉ gs) : w.cell? p = some v := (World.cell?_of_block (h.block p.block (cell_lt hc) hn)).trans hc
theorem Gr.onlyT {T : TypeId} (h : Gr gs a w) (hg : ∀ g ∈ gs, TyB T a g) : OnlyT T a w := ⟨h.size, fun k hk hn => h.block k hk (fun hm => hn (hg k hm))⟩
theorem notMem0 {k : Nat} : k ∉ ([] : List Nat) := fun h => by cases h
theorem notMem1 {k g : Nat} (h : k ≠ g) : k ∉ [g] := fun hm => by cases hm with | head => exact h rfl | tail _ h => cases h
end
theorem Bx.set3 {w : World} {g : Nat} {t : TypeId} {a b c x y z : Value} (h : Bx w g t #[a, b, c]) : Bx (((w.setCell ⟨g, 0, none⟩ x).setCell ⟨g, 1, none⟩ y).setCell ⟨g, 2, none⟩ z) g t #[x, y, z] := ((h.set 0 _ rfl).set 1 _ rfl).set 2 _ rfl
theorem Bx.new0 (w : World) (t : TypeId) (cs : Array Value) {g : Nat} (hg : g = w.heap.size := by first | rfl | (simp; done)) : Bx (w.alloc (.cells cs t)) g t cs := Bx.new' w t cs g hg
class Mg (A : Prop) (w w' : World) (B : outParam Prop) : Prop where
  mv : Gr [] w w' → A → B
class MgS (A : Prop) (w w' : World) (B : outParam Prop) : Prop where
  mv : Gr [] w w' → B → A
section
variable {w w' : World}
instance {g : Nat} {t : TypeId} {c : Array Value} : Mg (Bx w g t c) w w' (Bx w' g t c) := ⟨fun hb h => hb.bx h notMem0⟩
instance {v : Value} {q : Rat} : Mg (PV w v q) w w' (PV w' v q) := ⟨fun hb h => h.keep (hb.keep True.intro)⟩
instance {v : Value} {q : Rat} : Mg (RV w v q) w w' (RV w' v q) := ⟨fun hb h => h.keep (hb.keep True.intro)⟩
instance (priority := low) {G : Prop} : MgS G w w' G := ⟨fun _ h => h⟩
instance {A B X Y : Prop} [Mg A w w' B] [MgS X w w' Y] : MgS (A → X) w w' (B → Y) := ⟨fun hb h a => MgS.mv hb (h (Mg.mv hb a))⟩
theorem Gr.b1 {a w : World} {k g : Nat} {t : TypeId} {cs : Array Value} (h : Gr [k] a w) (hx : Bx a g t cs) (hn : g ≠ k := by omega) : Bx w g t cs := h.bx hx (notMem1 hn)
theorem Gr.c1 {a w : World} {k : Nat} {p : Addr} {v : Value} (h : Gr [k] a w) (hc : a.cell? p = some v) (hn : p.block ≠ k := by (dsimp only; omega)) : w.cell? p = some v := h.cell hc (notMem1 hn)
theorem Gr.d1 {a w : World} {B g : Nat} (h : Gr [g] a w) (hB : B ≤ a.heap.size) (h1 : B ≤ g := by first | omega | assumption) : Below B a w := h.below1 hB h1
theorem g0 {X Y : Prop} [MgS X w w' Y] (hG : Gr [] w w') (h : Y) : X := MgS.mv hG h
end
end Go.Proofs.YtbnomdlojmgigaaGreat
namespace Go.Proofs.YtbnomdlojmgigaaGreat
open Go
theorem put_mk (l : List Value) (ds : List Deferred) (d : Nat) (v : Value) : Act.put ⟨l.toArray, ds⟩ (some d) v = ⟨(l.set d v).toArray, ds⟩ := by
  simp only [Act.put, List.setIfInBounds_toArray]
theorem LY : (∀ (l : List Value) (ds : List Deferred) (d : Nat) (v : Value), Act.put ⟨l.toArray, ds⟩ (some d) v = ⟨(l.set d v).toArray, ds⟩) ∧ (∀ (x v : Value) (l : List Value), (x :: l).set 0 v = v :: l) ∧ (∀ (x v : Value) (l : List Value) (n : Nat), (x :: l).set (n + 1) v = x :: l.set n v) :=
  ⟨put_mk, fun _ _ _ => rfl, fun _ _ _ _ => rfl⟩
theorem alloc_letter {B : Nat} {w0 W : World} {t : TypeId} {cs : Array Value} {p : World → Prop} (hs : RowKit.Below B w0 W) (h : ∀ W1, RowKit.Below W.heap.size W W1 → Bx W1 W.heap.size t cs → w0.heap.size ≤ W.heap.size → p W1) : p (W.alloc (.cells cs t)) :=
  h _ ((RowKit.Below.refl _ _).alloc (Nat.le_refl _) _) (Bx.new _ _ _) hs.size
section
variable {P : Program} {ops : Array Oper} {Q : Exit → Act → World → Prop} {md : Region.Mode} {S : World → Prop} {m : Nat}
theorem U_three {i j k : Nat} {oi oj ok : Oper} {fuel : Nat} {listed : Array Bool} {a : Act} {w : World} (hr : Region.ready md ops listed = [i, j, k]) (hi : ops[i]? = some oi) (hj : ops[j]? = some oj) (hk : ops[k]? = some ok)
    (h1 : ∀ K' : Act → World → Prop, Shut (∀ a w, S w → (S w → AnyU P md ops Q S m fuel (listed.setIfInBounds i true) a w) → K' a w) → if Region.wanted oi (yielded ops a.tmps) = true then Oper.wp P oi a w K' Q else K' (a.put oi.dst undef) w)
    (h2 : ∀ K' : Act → World → Prop, Shut (∀ a w, S w → (S w → AnyU P md ops Q S m fuel (listed.setIfInBounds j true) a w) → K' a w) → if Region.wanted oj (yielded ops a.tmps) = true then Oper.wp P oj a w K' Q else K' (a.put oj.dst undef) w)
    (h3 : ∀ K' : Act → World → Prop, Shut (∀ a w, S w → (S w → AnyU P md ops Q S m fuel (listed.setIfInBounds k true) a w) → K' a w) → if Region.wanted ok (yielded ops a.tmps) = true then Oper.wp P ok a w K' Q else K' (a.put ok.dst undef) w) :
    AnyU P md ops Q S m (fuel + 1) listed a w := by
  refine ⟨fun h0 => (by rw [h0] at hr; cases hr), fun x hx => ?_⟩
  rw [hr] at hx
  simp only [List.mem_cons, List.mem_nil_iff, or_false] at hx
  rcases hx with rfl | rfl | rfl
  · exact wpOp_step hi (fun K' hK => h1 K' (fun a w hS hW => hK a w ⟨.inr hS, hW hS⟩))
  · exact wpOp_step hj (fun K' hK => h2 K' (fun a w hS hW => hK a w ⟨.inr hS, hW hS⟩))
  · exact wpOp_step hk (fun K' hK => h3 K' (fun a w hS hW => hK a w ⟨.inr hS, hW hS⟩))
theorem U_takeD {i d : Nat} {oi : Oper} {v : Value} {fuel : Nat} {listed : Array Bool} {l : List Value} {ds : List Deferred} {w : World} (hi : ops[i]? = some oi) (hd : oi.dst = some d) (hwt : waitsFor md ops m i = true)
    (hs : Region.noSelect ops = true) (hf : Region.free md ops listed i = true) (hr : (Region.ready md ops listed).contains i = true)
    (hQ : ∀ c a w, Q (.panic c) (a.put oi.dst v) w → Q (.panic c) a w) (hy : YieldsIf P ops S oi v ⟨l.toArray, ds⟩) (hS : S w)
    (h : AnyU P md ops Q S m fuel (listed.setIfInBounds i true) ⟨(l.set d v).toArray, ds⟩ w) : AnyU P md ops Q S m (fuel + 1) listed ⟨l.toArray, ds⟩ w :=
  U_take hi hwt hs hf hr hQ hy hS (by rw [hd, put_mk]; exact h)
theorem U_letters {fuel : Nat} {listed : Array Bool} {a : Act} {w : World} (h : ∀ (X : Nat → Array Bool → Act → World → Prop) (a0 : Act), RowKit.Hid (AnyU P md ops Q S m = X) → RowKit.Hid (a = a0) → X fuel listed a0 w) : AnyU P md ops Q S m fuel listed a w :=
  h _ _ (Lib.hid rfl) (Lib.hid rfl)
theorem U_at {f f' : Nat} {l l' : Array Bool} {a : Act} {w : World} (hf : f = f') (hl : l = l') (h : AnyU P md ops Q S m f' l' a w) : AnyU P md ops Q S m f l a w := by subst hf hl; exact h
end
end Go.Proofs.YtbnomdlojmgigaaGreat
