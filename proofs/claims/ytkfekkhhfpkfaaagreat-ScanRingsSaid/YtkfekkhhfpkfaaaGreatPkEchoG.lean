/-
  The contract of scan's Echoes: the errors.
-/
import Derived.Test.YtkfekkhhfpkfaaaGreatPkBoundsG
import Derived.Test.YtkfekkhhfpkfaaaGreatPkE7G
import Derived.RangeFuncBox
set_option linter.unusedSimpArgs false
set_option linter.unusedVariables false
namespace Go.Proofs.YtkfekkhhfpkfaaaGreat
open Go.RowKit Dg
attribute [local go_sem ↓] Go.wp_at_zero Go.wp_at_succ
theorem allPos_lay (x : Lay) : allPos [x.1, x.2.1, x.2.2] = layPos x := by
 unfold allPos layPos
 simp only [List.all_cons, List.all_nil, Bool.and_true]
theorem rows3 {w : World} {g : Nat} {p q r : Rat} {a1 a2 a3 b1 b2 b3 c1 c2 c3 : Value} (h : Bx w g 32 #[a1, a2, a3, b1, b2, b3, c1, c2, c3]) (h1 : PV w (.agg #[a1, a2, a3]) p) (h2 : PV w (.agg #[b1, b2, b3]) q) (h3 : PV w (.agg #[c1, c2, c3]) r) :
  Rows 3 32 PC w (.slice (some ⟨g, 0, none⟩) 3 3) [p, q, r] := by
 refine ⟨_, 3, rfl, Nat.le_refl _, by decide, (fun e => by cases e), (fun a ea _ => by cases ea; exact h.ty), fun i x hx => ?_⟩
 have at_ : ∀ o cs, (∀ j u, cs[j]? = some u → #[a1, a2, a3, b1, b2, b3, c1, c2, c3][o + j]? = some u) → CellsAt w g (0 + o) cs := fun o cs hc j u hu => by rw [Nat.zero_add]; exact h.at _ (hc j u hu)
 match i, hx with
 | 0, hx => cases hx; exact ⟨g, 0, [a1, a2, a3], rfl, rfl, at_ 0 _ (fun j u hu => by match j, hu with | 0, hu => exact hu | 1, hu => exact hu | 2, hu => exact hu), a1, a2, a3, rfl, h1⟩
 | 1, hx => cases hx; exact ⟨g, 0, [b1, b2, b3], rfl, rfl, at_ 3 _ (fun j u hu => by match j, hu with | 0, hu => exact hu | 1, hu => exact hu | 2, hu => exact hu), b1, b2, b3, rfl, h2⟩
 | 2, hx => cases hx; exact ⟨g, 0, [c1, c2, c3], rfl, rfl, at_ 6 _ (fun j u hu => by match j, hu with | 0, hu => exact hu | 1, hu => exact hu | 2, hu => exact hu), c1, c2, c3, rfl, h3⟩
end Go.Proofs.YtkfekkhhfpkfaaaGreat
namespace Go.Proofs.YtkfekkhhfpkfaaaGreat
open Go Go.RowKit Dg
theorem putL_other {W : World} {l : Nat} {r r' : Loop} (hl : W.heap[l]? = some (.loop r)) {k : Nat} {t : TypeId} (h : TyB t W k) : (W.putObj l (.loop r')).heap[k]? = W.heap[k]? := by
  refine World.putObj_heap_other (fun e => ?_)
  subst e
  obtain ⟨cs, fr, h⟩ := h
  rw [hl] at h
  cases h
theorem Bx.putL {W : World} {l : Nat} {r r' : Loop} (hl : W.heap[l]? = some (.loop r)) {g : Nat} {t : TypeId} {cs : Array Value} (h : Bx W g t cs) : Bx (W.putObj l (.loop r')) g t cs := (putL_other hl h.ty).trans h
theorem KeepD.putL {W : World} {l : Nat} {r r' : Loop} (hl : W.heap[l]? = some (.loop r)) : KeepD W (W.putObj l (.loop r')) := ⟨by rw [World.putObj_size]; exact Nat.le_refl _, fun _ _ hk _ => putL_other hl hk⟩
theorem OwnR.putL {α : Type} {base : Nat} {size : Nat} {T : TypeId} {R : World → List Value → α → Prop} {W : World} {v : Value} {xs : List α} {l : Nat} {r r' : Loop} (hR : Kept R) (hl : W.heap[l]? = some (.loop r)) (h : OwnR base T size R W v xs) :
    OwnR base T size R (W.putObj l (.loop r')) v xs := by
  obtain ⟨css, h1, h2, h3, h4⟩ := h
  exact ⟨css, h1, h2, fun i cs x hc hx => hR _ _ _ _ (h3 i cs x hc hx) (.putL hl), ownsRow_putObj h4 _ hl rfl⟩
theorem OwnR.putD {α : Type} {base : Nat} {size : Nat} {T : TypeId} {R : World → List Value → α → Prop} {W : World} {v : Value} {xs : List α} {D : Nat} {o o' : Obj} (hR : Kept R) (hD : W.heap[D]? = some o) (ho : o.isCells = false) (h : OwnR base T size R W v xs) :
    OwnR base T size R (W.putObj D o') v xs := by
  obtain ⟨css, h1, h2, h3, h4⟩ := h
  refine ⟨css, h1, h2, fun i cs x hc hx => hR _ _ _ _ (h3 i cs x hc hx) ⟨by rw [World.putObj_size]; exact Nat.le_refl _, fun k t hk _ => World.putObj_heap_other (fun e => ?_)⟩, ownsRow_putObj h4 _ hD ho⟩
  subst e
  obtain ⟨cs, fr, hk⟩ := hk
  rw [hD] at hk
  cases hk
  cases ho
theorem BoxP.mono {w w' : World} {g : Nat} {x : Rat} (h : BoxP w g x) (hb : Below w.heap.size w w') : BoxP w' g x := by
  obtain ⟨s, a, n, c, A, N, C, h1, h2⟩ := h
  exact ⟨s, a, n, c, A, N, C, h1.mono hb, h2.mono hb⟩
theorem BoxP.putL {W : World} {l : Nat} {r r' : Loop} (hl : W.heap[l]? = some (.loop r)) {g : Nat} {x : Rat} (h : BoxP W g x) : BoxP (W.putObj l (.loop r')) g x := by
  obtain ⟨s, a, n, c, A, N, C, h1, h2⟩ := h
  exact ⟨s, a, n, c, A, N, C, h1.putL hl, h2.keep (.putL hl)⟩
def EJ (w : World) (lp D : Nat) (L : Loop) (eo lo bx : Nat) (v : Value) (l : List Lay) (k : Nat) (W : World) : Prop :=
  W.heap[lp]? = some (.loop L) ∧ W.heap[D]? = some (.deferred (some [])) ∧ Below w.heap.size w W ∧ Bx W bx 121 #[v] ∧ BoxP W lo (lfQ l k) ∧
    ∃ ov, Bx W eo 116 #[ov] ∧ OwnR w.heap.size 123 6 (C2 PC) W ov (echoQ l k)
section
variable {w : World} {lp D eo lo bx k : Nat} {L : Loop} {v : Value} {l : List Lay}
theorem blockK {W W' : World} {k : Nat} {o : Obj} (h : W.heap[k]? = some o) (hb : Below W.heap.size W W') : W'.heap[k]? = some o := (hb.block k (Array.getElem?_eq_some_iff.1 h).1).trans h
theorem EJ.below (k : Nat) (W W' : World) (h : EJ w lp D L eo lo bx v l k W) (hb : Below W.heap.size W W') : EJ w lp D L eo lo bx v l k W' := by
  obtain ⟨h1, h2, h3, h4, h5, ov, h6, h7⟩ := h
  exact ⟨blockK h1 hb, blockK h2 hb, bStep h3 hb, h4.mono hb, h5.mono hb, ov, h6.mono hb, h7.mono (C2.kept PC.kept) hb⟩
theorem EJ.set {n1 : Nat} (hn : w.heap.size ≤ n1) (a1 : lp < n1) (a2 : D < n1) (a3 : eo < n1) (a4 : lo < n1) (a5 : bx < n1) (k : Nat) (W : World) (b : Nat) (h : EJ w lp D L eo lo bx v l k W) (hb : n1 ≤ b) (ht : TyB 32 W b) (j : Nat) (x : Value) :
    EJ w lp D L eo lo bx v l k (W.setCell ⟨b, j, none⟩ x) := by
  obtain ⟨h1, h2, h3, h4, ⟨s, a, n, c, A, N, C, g1, g2⟩, ov, h6, h7⟩ := h
  have ho : OnlyT 32 W (W.setCell ⟨b, j, none⟩ x) := .store ht j x
  have hk : KeepD W (W.setCell ⟨b, j, none⟩ x) := .of_only ho (by decide)
  have oth : ∀ q o, q < n1 → W.heap[q]? = some o → (W.setCell ⟨b, j, none⟩ x).heap[q]? = some o := fun q o hq h => (Below.heap_setCell W ⟨b, j, none⟩ x q (by show q ≠ b; omega)).trans h
  exact ⟨oth _ _ a1 h1, oth _ _ a2 h2, Below.setCell h3 (show w.heap.size ≤ b by omega) _, h4.far (by show bx ≠ b; omega) _, ⟨s, a, n, c, A, N, C, g1.far (by show lo ≠ b; omega) _, g2.keep hk⟩, ov, h6.far (by show eo ≠ b; omega) _, h7.onlyT (C2.kept PC.kept) ho (by decide) (by decide)⟩
theorem EJ.put {W : World} {L' : Loop} (h : EJ w lp D L eo lo bx v l k W) (hlp : w.heap.size ≤ lp) (hne : D ≠ lp) : EJ w lp D L' eo lo bx v l k (W.putObj lp (.loop L')) := by
  obtain ⟨h1, h2, h3, h4, h5, ov, h6, h7⟩ := h
  exact ⟨World.putObj_heap_same (Array.getElem?_eq_some_iff.1 h1).1, (World.putObj_heap_other hne).trans h2, h3.trans (belowK_b (Nat.le_refl _) W lp _ _ hlp h1 rfl rfl), h4.putL h1, h5.putL h1, ov, h6.putL h1, h7.putL (C2.kept PC.kept) h1⟩
end
structure Tk (n1 lp D : Nat) (L : Loop) (W W' : World) : Prop where
  size : W.heap.size ≤ W'.heap.size
  blk : ∀ b t, n1 ≤ b → (t = 32 ∨ t = 120) → TyB t W b → W'.heap[b]? = W.heap[b]?
  lp : W'.heap[lp]? = some (.loop L)
  dd : W'.heap[D]? = some (.deferred (some []))
  kd : KeepD W W'
section
variable {n1 lp D : Nat} {L : Loop} {W W' W'' : World}
theorem Tk.lt (h : Tk n1 lp D L W W') {b : Nat} {t : TypeId} (hb : n1 ≤ b) (ht : t = 32 ∨ t = 120) (hT : TyB t W b) : TyB t W' b := by
  obtain ⟨cs, fr, h1⟩ := id hT
  exact ⟨cs, fr, (h.blk b t hb ht hT).trans h1⟩
theorem tkB (n1 : Nat) (W W' : World) (h : Tk n1 lp D L W W') (hb : Below W'.heap.size W' W'') : Tk n1 lp D L W W'' :=
  ⟨Nat.le_trans h.size hb.size, fun b t h1 h2 h3 => (hb.block b (h.lt h1 h2 h3).lt).trans (h.blk b t h1 h2 h3), blockK h.lp hb, blockK h.dd hb, h.kd.below hb⟩
theorem Tk.only (h : Tk n1 lp D L W W') {T : TypeId} (ho : OnlyT T W' W'') (hT : T ≠ 108 ∧ T ≠ 62) (hT2 : T ≠ 32 ∧ T ≠ 120) : Tk n1 lp D L W W'' := by
  have noT : ∀ (k : Nat) (o : Obj), W'.heap[k]? = some o → (∀ cs fr, o ≠ .cells cs T fr) → W''.heap[k]? = some o := fun k o hk hn =>
    (ho.block k (Array.getElem?_eq_some_iff.1 hk).1 (fun ⟨cs, fr, h⟩ => hn cs fr (by rw [hk] at h; exact Option.some.inj h))).trans hk
  refine ⟨Nat.le_trans h.size ho.size, fun b t h1 h2 h3 => ?_, noT _ _ h.lp (fun _ _ e => by cases e), noT _ _ h.dd (fun _ _ e => by cases e), h.kd.trans (.of_only ho hT)⟩
  have h4 := h.lt h1 h2 h3
  refine (ho.block b h4.lt (fun hT' => ?_)).trans (h.blk b t h1 h2 h3)
  rcases h2 with rfl | rfl
  · exact TyB.ne hT' h4 hT2.1 rfl
  · exact TyB.ne hT' h4 hT2.2 rfl
theorem tkS (n1 : Nat) (W W' : World) {b : Nat} {T : TypeId} (h : Tk n1 lp D L W W') (hb : b < n1) (ht : TyB T W' b) (j : Nat) (u : Value) (hT : T ≠ 108 ∧ T ≠ 62 := by decide) : Tk n1 lp D L W (W'.setCell ⟨b, j, none⟩ u) := by
  have noB : ∀ (k : Nat) (o : Obj), W'.heap[k]? = some o → (∀ cs fr, o ≠ .cells cs T fr) → (W'.setCell ⟨b, j, none⟩ u).heap[k]? = some o := fun k o hk hn => by
    refine (Below.heap_setCell W' ⟨b, j, none⟩ u k (fun e => ?_)).trans hk
    obtain ⟨cs, fr, h⟩ := ht
    change k = b at e
    rw [← e, hk] at h
    exact hn cs fr (Option.some.inj h)
  refine ⟨Nat.le_trans h.size (by simp [World.setCell]), fun q t h1 h2 h3 => ?_, noB _ _ h.lp (fun _ _ e => by cases e), noB _ _ h.dd (fun _ _ e => by cases e), h.kd.trans (.of_only (.store ht j u) hT)⟩
  exact (Below.heap_setCell W' ⟨b, j, none⟩ u q (by show q ≠ b; omega)).trans (h.blk q t h1 h2 h3)
theorem Tk.round {W0 W1 W3 : World} {L0 L1 : Loop} (hb : Below W0.heap.size W0 W1) (hl : W1.heap[lp]? = some (.loop L0)) (h : Tk n1 lp D L (W1.putObj lp (.loop L)) W3) :
    KeepD W0 (W3.putObj lp (.loop L1)) ∧ ∀ b, n1 ≤ b → b < W0.heap.size → (TyB 32 W0 b ∨ TyB 120 W0 b) → (W3.putObj lp (.loop L1)).heap[b]? = W0.heap[b]? := by
  refine ⟨(((KeepD.of_below hb).trans (.putL hl)).trans h.kd).trans (.putL h.lp), fun b h1 h2 h3 => ?_⟩
  have key : ∀ t, (t = 32 ∨ t = 120) → TyB t W0 b → (W3.putObj lp (.loop L1)).heap[b]? = W0.heap[b]? := fun t ht hT => by
    have e1 := hb.block b h2
    have t1 : TyB t W1 b := by obtain ⟨cs, fr, hh⟩ := id hT; exact ⟨cs, fr, e1.trans hh⟩
    have e2 := putL_other (r' := L) hl t1
    have t2 : TyB t (W1.putObj lp (.loop L)) b := by obtain ⟨cs, fr, hh⟩ := id t1; exact ⟨cs, fr, e2.trans hh⟩
    have e3 := h.blk b t h1 ht t2
    have e4 := putL_other (r' := L1) h.lp (h.lt h1 ht t2)
    exact ((e4.trans e3).trans e2).trans e1
  rcases h3 with h3 | h3
  · exact key _ (.inl rfl) h3
  · exact key _ (.inr rfl) h3
end
end Go.Proofs.YtkfekkhhfpkfaaaGreat
