/-
  A region that draws its order: its last operation, a store, waits for another one through others. No function of the program is in sight here.
-/
import Derived.Test.YtmnipggjjcmjkaaPkHeld3
set_option linter.unusedSimpArgs false
set_option linter.unusedVariables false
namespace Go.Proofs.Ytmnipggjjcmjkaa
open Go

section
variable {P : Program} {ops : Array Oper} {Q : Exit → Act → World → Prop} {md : Region.Mode} {S : World → Prop} {m : Nat}
/-- i and m belong to C; each of C but i waits for one of C; none is listed. -/
def chainB (md : Region.Mode) (ops : Array Oper) (C : List Nat) (m i : Nat) (listed : Array Bool) : Bool :=
  C.contains m && C.contains i && !(m == i) && C.all fun c => !(listed.getD c true) && (c == i || C.any fun b => waitsFor md ops c b)
theorem not_ready_of {listed : Array Bool} {c b : Nat} (hw : waitsFor md ops c b = true) (hb : listed.getD b true = false) : ¬ c ∈ Region.ready md ops listed := by
  intro hm
  obtain ⟨_, om, hom, hall⟩ := mem_ready.1 hm
  unfold waitsFor at hw
  rw [hom] at hw
  simp only [Option.map_some, Option.getD_some, Array.any_eq_true, Bool.and_eq_true, beq_iff_eq] at hw
  obtain ⟨k, hk, hb', he⟩ := hw
  have h1 := hall _ (Array.getElem_mem hk) hb'
  rw [he] at h1
  rcases Nat.lt_or_ge b listed.size with h' | h'
  · simp [h'] at hb h1; rw [hb] at h1; cases h1
  · simp [Array.getElem?_eq_none h'] at h1
theorem U_firstC {i : Nat} {oi : Oper} {v : Value} {C : List Nat} (hi : ops[i]? = some oi) (hmC : m ∈ C) (hmi : m ≠ i) (hw : ∀ c ∈ C, c ≠ i → ∃ b ∈ C, waitsFor md ops c b = true)
    (hsel : ∀ (j : Nat) (o : Oper) cs b, ops[j]? = some o → o.op ≠ .select cs b) (hQ : ∀ c a w, Q (.panic c) (a.put oi.dst v) w → Q (.panic c) a w) :
    ∀ (fuel : Nat) (listed : Array Bool) (a : Act) (w : World), (∀ c ∈ C, listed.getD c true = false) →
      (∀ j oj, ops[j]? = some oj → j ≠ i → listed.getD j true = false → (∀ e ∈ oj.after, Region.binds md e = true → e.on ≠ i) → oi.apart ops oj = true) →
      i ∈ Region.ready md ops listed → YieldsIf P ops S oi v a → S w →
      AnyU P md ops Q S m fuel (listed.setIfInBounds i true) (a.put oi.dst v) w → AnyU P md ops Q S m (fuel + 1) listed a w := by
  intro fuel
  induction fuel with
  | zero =>
    intro listed a w _ _ hr hy hS H
    refine ⟨fun h => (by rw [h] at hr; cases hr), fun j hj => ?_⟩
    by_cases hji : j = i
    · subst hji; exact hy.wpOp hi hS ⟨.inr hS, H⟩
    · have := ready_mono hj hji
      rw [H.1] at this
      cases this
  | succ fuel ih =>
    intro listed a w hun hfree hr hy hS H
    refine ⟨fun h => (by rw [h] at hr; cases hr), fun j hj => ?_⟩
    by_cases hji : j = i
    · subst hji; exact hy.wpOp hi hS ⟨.inr hS, H⟩
    · have hjC : ¬ j ∈ C := fun hc => by
        obtain ⟨b, hb, hwb⟩ := hw j hc hji
        exact not_ready_of hwb (hun b hb) hj
      have hjm : j ≠ m := fun e => hjC (e ▸ hmC)
      have h1 := H.2 j (ready_mono hj hji)
      obtain ⟨hjun, oj, hoj, hall⟩ := mem_ready.1 hj
      have hnot : ∀ e ∈ oj.after, Region.binds md e = true → e.on ≠ i := fun e he hb heq => by
        have h1 := hall e he hb
        have h0 := (mem_ready.1 hr).1
        rw [heq] at h1
        rcases Nat.lt_or_ge i listed.size with h' | h'
        · simp [h'] at h0 h1; rw [h0] at h1; cases h1
        · simp [Array.getElem?_eq_none h'] at h1
      have h2 := wpOp_putIf hoj (hfree j oj hoj hji hjun hnot) (fun cs b => hsel i oi cs b hi) (fun cs b => hsel j oj cs b hoj) hQ hy h1
      have hfree' : ∀ k ok, ops[k]? = some ok → k ≠ i → (listed.setIfInBounds j true).getD k true = false →
          (∀ e ∈ ok.after, Region.binds md e = true → e.on ≠ i) → oi.apart ops ok = true := fun k ok hk hki hun hno => by
        refine hfree k ok hk hki ?_ hno
        by_cases hjk : j = k
        · subst hjk; exact hjun
        · rw [getD_set_ne true hjk] at hun; exact hun
      have hun' : ∀ c ∈ C, (listed.setIfInBounds j true).getD c true = false := fun c hc => by
        rw [getD_set_ne true (show j ≠ c from fun e => hjC (e ▸ hc))]; exact hun c hc
      refine wpOp_mono (fun a' w' h3 => ⟨.inr (h3.2.1.resolve_left hjm), ih (listed.setIfInBounds j true) a' w' hun' hfree' (ready_mono hr (Ne.symm hji)) h3.1 (h3.2.1.resolve_left hjm) ?_⟩) h2
      rw [Array.setIfInBounds_comm _ _ hji]
      exact h3.2.2
/-- Take number i first. -/
theorem U_takeC (C : List Nat) {i : Nat} {oi : Oper} {v : Value} {fuel : Nat} {listed : Array Bool} {a : Act} {w : World} (hi : ops[i]? = some oi) (hc : chainB md ops C m i listed = true)
    (hs : Region.noSelect ops = true) (hf : Region.free md ops listed i = true) (hr : (Region.ready md ops listed).contains i = true)
    (hQ : ∀ c a w, Q (.panic c) (a.put oi.dst v) w → Q (.panic c) a w) (hy : YieldsIf P ops S oi v a) (hS : S w)
    (h : AnyU P md ops Q S m fuel (listed.setIfInBounds i true) (a.put oi.dst v) w) : AnyU P md ops Q S m (fuel + 1) listed a w := by
  unfold chainB at hc
  simp only [Bool.and_eq_true, List.contains_eq_mem, decide_eq_true_eq, Bool.not_eq_true', beq_eq_false_iff_ne, ne_eq, List.all_eq_true, Bool.or_eq_true, beq_iff_eq, List.any_eq_true] at hc
  obtain ⟨⟨⟨hm, _⟩, hmi⟩, hall⟩ := hc
  exact U_firstC hi hm hmi (fun c hc hci => ((hall c hc).2.resolve_left hci).imp fun b h => h) (Region.noSelect_spec hs) hQ fuel listed a w (fun c hc => (hall c hc).1) (Region.free_spec hi hf) (by simpa using hr) hy hS h
end
end Go.Proofs.Ytmnipggjjcmjkaa
