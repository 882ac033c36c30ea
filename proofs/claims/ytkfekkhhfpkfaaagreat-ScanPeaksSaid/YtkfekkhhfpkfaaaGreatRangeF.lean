/-
  A range over a function whose iterator is one's own and keeps state in cells: the statement by a promise on each call of yield; and plain regions taken into a round. After the library's law for a caller who says what lies behind.
-/
import Derived.Test.YtkfekkhhfpkfaaaGreatPkHeld
import Derived.RangeFuncNested
import Derived.RangeFuncCalls
import Derived.RangeFuncLeaves
import Derived.RangeFuncRecord
set_option linter.unusedSimpArgs false
set_option linter.unusedVariables false
namespace Go.Proofs.YtkfekkhhfpkfaaaGreat
open Go Go.RowKit

section
variable {F : Fence} {n : Nat} {P : Program}

/-- The statement, its iterator's call being shown at a promise for each call of yield whose body ends normally. -/
theorem rangeJoint {g : Operand} {ps : Array Tmp} {assign body : Code} {Q : Exit → Act → World → Prop} {a : Act} {w : World}
    (hro : F.round = none) (h1 : 1 ≤ n) {gf : Nat} {lb : Array Value} (hg : a.eval g = .func (.func gf) #[] lb) (hFg : F.fn gf) (eg : ∀ args w, (callFunc gf args).run P w = .ok (.enter gf args) w)
    (h : ∀ (rec : LoopState → Option Code → Loop) (l D : Nat) (W1 : World), l = w.heap.size + 1 → D = w.heap.size → W1 = (w.alloc (.deferred (some []))).alloc (.loop (rec .ready none)) →
      (∀ (args : Array Value) (W : World) (R : Ending → World → Prop), args.size = ps.size → W.heap[l]? = some (.loop (rec .ready none)) →
        assign.wpIn (F.inRound l) (n - 1 - 1) P (Exit.then (fun a₁ w₁ => w₁.heap[l]? = some (.loop (rec .ready none)) ∧
          body.wpIn (F.inRound l) (n - 1 - 1) P (fun e _ W3 => e = .normal ∧ W3.heap[l]? = some (.loop (rec .busy none)) ∧ R (.returned (.bool true)) (W3.putObj l (.loop (rec .ready none)))) a₁ (w₁.putObj l (.loop (rec .busy none)))) (fun _ _ _ => False))
          { tmps := (ps.zip args).foldl (fun t (p, v) => t.setIfInBounds p v) a.tmps, defers := [] } W →
        YieldAt F (n - 1 - 1) P l args W R) →
      CallsIn F (n - 1) P gf (#[.func (.yield l) #[] #[]] ++ lb) W1 (fun e W2 => (∃ v, e = .returned v) ∧ W2.heap[l]? = some (.loop (rec .ready none)) ∧
        Q .normal { a with defers := { target := .collected D, args := #[] } :: a.defers } (W2.putObj l (.loop (rec .exhausted none))))) :
    (Code.rangeFunc g ps assign body).wpIn F n P Q a w := by
  refine wpIn_rangeFunc ?_
  intro fn hfn
  rw [hro]
  obtain ⟨rec, hrec⟩ : ∃ rec : LoopState → Option Code → Loop, rec = fun st pe => { state := st, pending := pe, fn, tmps := a.tmps, params := ps, assign, body, defers := w.heap.size } := ⟨_, rfl⟩
  obtain ⟨W1, hW1⟩ : ∃ W1, W1 = (w.alloc (.deferred (some []))).alloc (.loop (rec .ready none)) := ⟨_, rfl⟩
  have hc := h rec (w.heap.size + 1) w.heap.size W1 rfl rfl hW1 (by
    intro args W R hs hl ha
    have hy := run_yield (P := P) (args := args) hl (by rw [hrec]; exact hs)
    rw [hrec] at hy
    refine ⟨fn, _, assign, body, hy, roundIn_of_wpIn hfn (wpIn_mono ha ?_)⟩
    rintro e a₁ w₁ hp
    cases e with
    | normal =>
      obtain ⟨hl1, hb⟩ := hp
      have hbr := run_beginRound (P := P) hl1 (by rw [hrec])
      rw [show ({ rec .ready none with state := .busy } : Loop) = rec .busy none by rw [hrec]] at hbr
      refine ⟨_, hbr, wpIn_mono hb ?_⟩
      rintro e a3 W3 ⟨rfl, hl3, hR⟩
      have her := run_endRound (P := P) none hl3
      rw [show ({ rec .busy none with state := if (none : Option Code).isNone then .ready else .done, pending := none } : Loop) = rec .ready none by rw [hrec]; rfl] at her
      exact ⟨_, _, her, hR⟩
    | exit id => exact hp.elim
    | goto t => exact hp.elim
    | ret => exact hp.elim
    | panic ch => exact hp.elim
    | outgrown => exact hp.elim)
  refine ⟨w.heap.size + 1, [{ target := .collected w.heap.size, args := #[] }], W1, { target := .fn (.func gf) lb, args := #[.func (.yield (w.heap.size + 1)) #[] #[]] }, W1, gf,
    #[.func (.yield (w.heap.size + 1)) #[] #[]] ++ lb, W1, ?_, ?_, ?_, ?_, fun _ => h1, ?_⟩
  · rw [hW1, hrec]; exact run_enterLoop_outer _ _ _ _ _
  · simp only [resolve, hg]
    simp [go_sem]
  · intro f' hf'; simp [Target.leads] at hf'; subst hf'; exact hFg
  · simp [invoke, go_sem, eg]
  · refine hc.mono ?_
    rintro e W2 ⟨⟨v, rfl⟩, hl, hQ⟩
    have hel := run_endLoop (P := P) hl (by rw [hrec]; simp)
    rw [show ({ rec .ready none with state := .exhausted } : Loop) = rec .exhausted none by rw [hrec], show (rec .ready none).pending = none by rw [hrec]] at hel
    exact ⟨none, _, hel, hQ⟩
end

/-! ### A plain region in a round -/
section
variable {P : Program} {ops : Array Oper} {Q : Exit → Act → World → Prop} {md : Region.Mode} {S : World → Prop} {m l n : Nat}

theorem rows_wide {row : String} {args : Array Value} {w : World} {R : Value → World → Prop} (h : Rows P row args w R) : RowsIn (Fence.wide.inRound l) n P row args w R :=
  by
  intro c cs _
  obtain ⟨v, w', r, s⟩ := h c cs
  exact ⟨v, w', r, stepsIn_wide.2 s⟩

theorem upon_in {o : Oper} {a : Act} {next : Act → World → Prop} {r : Result Next} (h : o.upon P a next Q r) : o.uponIn (Fence.wide.inRound l) n P a next Q r := by
  cases r with
  | ok x w' =>
    cases x
    case value v => exact h
    case skip => exact h
    case defer d => exact h
    case enter f args => exact ⟨fun e => (by cases e), (callsIn_wide.2 h).inRound l⟩
    case row row args => exact ⟨fun e => (by cases e), rows_wide h⟩
    all_goals exact h.elim
  | halt x w' => cases x <;> exact h

theorem wpOp_in (hd : noDefer ops = true) (hQ : ∀ a w, ¬ Q .outgrown a w) {i : Nat} {K : Act → World → Prop} {a : Act} {w : World} (h : wpOp P ops Q i K a w) :
    wpOpIn (Fence.wide.inRound l) n P ops Q i K a w := by
  unfold wpOp at h
  unfold wpOpIn
  cases ho : ops[i]? with
  | none => simp only [ho] at h ⊢; exact h
  | some o =>
    simp only [ho] at h ⊢
    split
    · rename_i hw
      simp only [hw, if_true] at h
      rcases h with h | ⟨_, a', w', hx⟩
      · refine ⟨fun _ _ => trivial, ?_⟩
        rw [Oper.semAt_eq _ _ _ (noDefer_spec hd ho)]
        exact upon_in h
      · exact (hQ _ _ hx).elim
    · rename_i hw
      simp only [hw] at h
      exact ⟨fun _ _ => trivial, h⟩

theorem wpAny_in (hd : noDefer ops = true) (hQ : ∀ a w, ¬ Q .outgrown a w) : ∀ (fuel : Nat) (listed : Array Bool) (a : Act) (w : World),
    wpAny P md ops Q fuel listed a w → wpAnyIn (Fence.wide.inRound l) n P md ops Q fuel listed a w
  | 0, _, _, _, h => h
  | fuel + 1, _, _, _, h => ⟨h.1, fun i hi => wpOpIn_mono (fun a' w' h' => wpAny_in hd hQ fuel _ a' w' h') (wpOp_in hd hQ (h.2 i hi))⟩

/-- A drawn region in a round, walked by the plain laws. -/
theorem R_region {id : Nat} {a : Act} {w : World} (hd : noDefer ops = true) (hQ : ∀ a w, ¬ Q .outgrown a w) (hm : P.follows .mixedOrders = true) (m : Nat)
    (h : AnyU P .any ops Q S m ops.size (Array.replicate ops.size false) a w.drew) : (Code.region id ops true).wpIn (Fence.wide.inRound l) n P Q a w :=
  wpIn_region_any hm (wpAny_in hd hQ _ _ _ _ (any_of_U _ _ _ _ h))
end
end Go.Proofs.YtkfekkhhfpkfaaaGreat
