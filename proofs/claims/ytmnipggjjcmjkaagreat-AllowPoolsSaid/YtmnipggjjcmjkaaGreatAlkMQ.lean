/-
  Maps of sums, as alike keeps them: what they read as, before, during and behind a range over one of them. No function of the program is walked here.
-/
import Derived.Test.YtmnipggjjcmjkaaGreatAlk0Q
import Derived.Test.YtmnipggjjcmjkaaGreatPkAlBQ
import Derived.Maps.RangeWalk
import Derived.Maps.OwnOps
import Derived.Maps.Ext
import Derived.Carry
set_option linter.unusedSimpArgs false
set_option linter.unusedVariables false
namespace Go.Proofs.YtmnipggjjcmjkaaGreat
open Go Go.Maps Go.RowKit Dg

section
variable {H : Type}
/-- The map reads as f. -/
def Rd (D : DataW H) (f : Int → Nat) : Prop := IsMap D ∧ ∀ s, (has D (.int .i64 s) = true → (∀ z, D.atKey (.int .i64 s) z = .lit (.int .i64 (f s))) ∧ 0 < f s) ∧ (has D (.int .i64 s) = false → f s = 0)
theorem Rd.nil : Rd (.map [] : DataW H) (fun _ => 0) := ⟨isMap_empty, fun _ => ⟨(fun h => Bool.noConfusion (h : false = true)), (fun _ => rfl)⟩⟩
theorem Rd.eq {D : DataW H} {f g : Int → Nat} (h : Rd D f) (e : f = g) : Rd D g := e ▸ h
theorem Rd.put {D : DataW H} {f : Int → Nat} (h : Rd D f) (x : Int) {c : Nat} (hc : 0 < c) : Rd (D.put (.int .i64 x) (.lit (.int .i64 (c : Int)))) (fun s => if s = x then c else f s) := by
  refine ⟨h.1.put _ _, fun s => ?_⟩
  by_cases e : s = x
  · subst e
    dsimp only
    rw [if_pos rfl]
    have hk : WideAt.IsKeyLit (Lit.int .i64 s) := trivial
    exact ⟨fun _ => ⟨fun z => atKey_put_same h.1 hk _ z, hc⟩, fun h0 => by rw [has_put_same h.1 hk] at h0; cases h0⟩
  · have hne : Lit.int .i64 s ≠ Lit.int .i64 x := fun e' => e (by injection e')
    dsimp only
    rw [if_neg e, has_put_other hne]
    obtain ⟨a, b⟩ := h.2 s
    exact ⟨fun h1 => ⟨fun z => by rw [atKey_put_other hne]; exact (a h1).1 z, (a h1).2⟩, b⟩
/-- What a look-up finds. -/
theorem Rd.look {D : DataW H} {f : Int → Nat} (h : Rd D f) {s c : Int} (hc : D.atKey (.int .i64 s) (.lit (.int .i64 0)) = .lit (.int .i64 c)) : c = f s := by
  obtain ⟨a, b⟩ := h.2 s
  cases e : has D (.int .i64 s)
  · rw [atKey_of_not_has e] at hc
    injection hc with hc; injection hc with _ hc
    rw [b e]; omega
  · rw [(a e).1] at hc
    injection hc with hc; injection hc with _ hc
    omega
theorem Rd.hit {D : DataW H} {f : Int → Nat} (h : Rd D f) {s c : Int} (hc : ∀ z, D.atKey (.int .i64 s) z = .lit (.int .i64 c)) : has D (.int .i64 s) = true ∧ c = f s ∧ 0 < f s := by
  have e := has_true_of_atKey hc
  obtain ⟨a, _⟩ := h.2 s
  have := (a e).1 (.lit (.int .i64 0))
  rw [hc] at this
  injection this with this; injection this with _ this
  exact ⟨e, this, (a e).2⟩
/-- What has come. -/
def vsB (D : DataW H) (left : Lit → Bool) (s : Int) : Bool := has D (.int .i64 s) && !left (.int .i64 s)
theorem vsB_start (D : DataW H) (s : Int) : vsB D (has D) s = false := by unfold vsB; cases has D (.int .i64 s) <;> rfl
theorem vsB_next {D : DataW H} {left : Lit → Bool} {x : Int} (hx : has D (.int .i64 x) = true) (s : Int) : vsB D (fun z => left z && !z.sameKey (.int .i64 x)) s = (vsB D left s || decide (s = x)) := by
  unfold vsB
  show (has D (.int .i64 s) && !(left (.int .i64 s) && !(decide (IntKind.i64 = IntKind.i64 ∧ s = x)))) = _
  by_cases e : s = x
  · subst e
    rw [hx]
    simp
  · simp [e]
theorem vsB_was {D : DataW H} {left : Lit → Bool} {x : Int} (h : left (.int .i64 x) = true) : vsB D left x = false := by unfold vsB; rw [h]; cases has D (.int .i64 x) <;> rfl
theorem vsB_end {D : DataW H} {left : Lit → Bool} (h : ∀ k, left k = false) (s : Int) : vsB D left s = has D (.int .i64 s) := by unfold vsB; rw [h]; cases has D (.int .i64 s) <;> rfl
/-- What the map that is added to reads as, on the way. -/
def upF (f g : Int → Nat) (r : Int) (D : DataW H) (left : Lit → Bool) (s : Int) : Nat := g s + if vsB D left (s - r) then f (s - r) else 0
theorem upF_start (f g : Int → Nat) (r : Int) (D : DataW H) : upF f g r D (has D) = g := by
  funext s
  unfold upF
  rw [vsB_start]; rfl
theorem upF_now {f g : Int → Nat} {r : Int} {D : DataW H} {left : Lit → Bool} {x : Int} (h : left (.int .i64 x) = true) : upF f g r D left (x + r) = g (x + r) := by
  unfold upF
  rw [show x + r - r = x by omega, vsB_was h]; rfl
theorem upF_next {f g : Int → Nat} {r : Int} {D : DataW H} {left : Lit → Bool} {x : Int} (hx : has D (.int .i64 x) = true) :
    (fun s => if s = x + r then g (x + r) + f x else upF f g r D left s) = upF f g r D (fun z => left z && !z.sameKey (.int .i64 x)) := by
  funext s
  unfold upF
  rw [vsB_next hx]
  by_cases e : s = x + r
  · subst e
    rw [if_pos rfl, show x + r - r = x by omega]
    simp
  · rw [if_neg e, show decide (s - r = x) = false from decide_eq_false (by omega), Bool.or_false]
theorem upF_end {f g : Int → Nat} {r : Int} {D : DataW H} {left : Lit → Bool} (hD : Rd D f) (h : ∀ k, left k = false) : upF f g r D left = fun s => g s + f (s - r) := by
  funext s
  unfold upF
  rw [vsB_end h]
  cases e : has D (.int .i64 (s - r))
  · rw [if_neg Bool.false_ne_true, (hD.2 _).2 e]
  · rw [if_pos rfl]
/-- How many of the sums have come. -/
theorem countP_next (p q : Int → Bool) (x : Int) (h : p x = false) : ∀ L : List Int, L.countP (fun s => (p s || decide (s = x)) && q s) = L.countP (fun s => p s && q s) + if q x then L.count x else 0
  | [] => by simp
  | a :: L => by
    have ih := countP_next p q x h L
    rw [List.countP_cons, List.countP_cons, List.count_cons, ih]
    by_cases e : a = x
    · subst e
      rw [h]
      cases q a <;> simp; omega
    · have e1 : (a == x) = false := by simpa using e
      rw [show decide (a = x) = false from decide_eq_false e, Bool.or_false, e1]
      cases q x <;> simp <;> omega
theorem countP_start {D : DataW H} (q : Int → Bool) (L : List Int) : L.countP (fun s => vsB D (has D) s && q s) = 0 := List.countP_eq_zero.2 fun s _ => by rw [vsB_start]; simp
theorem countP_end {D : DataW H} {left : Lit → Bool} (q : Int → Bool) {L : List Int} (hD : Rd D (fun s => L.count s)) (h : ∀ k, left k = false) : L.countP (fun s => vsB D left s && q s) = L.countP q := by
  refine List.countP_congr fun s hs => ?_
  rw [vsB_end h]
  have : has D (.int .i64 s) = true := by
    cases e : has D (.int .i64 s)
    · have z : L.count s = 0 := (hD.2 s).2 e
      have p := List.count_pos_iff.2 hs
      omega
    · rfl
  rw [this, Bool.true_and]
end
theorem sm_len : ∀ (l : List Int) (k : Nat), (sm l k).length ≤ 2 ^ l.length
  | [], 0 => by decide
  | [], _ + 1 => Nat.zero_le _
  | _ :: l, 0 => by rw [sm_zero]; exact Nat.one_le_two_pow
  | r :: l, k + 1 => by
    have a := sm_len l (k + 1)
    have b := sm_len l k
    rw [sm_cons, List.length_append, List.length_map, List.length_cons, Nat.pow_succ]
    omega
theorem sm_bd {B : Int} : ∀ (l : List Int), (∀ x ∈ l, 0 ≤ x ∧ x ≤ B) → ∀ k, ∀ s ∈ sm l k, 0 ≤ s ∧ s ≤ B * l.length
  | [], _, 0, s, hs => by rw [sm_zero, List.mem_singleton] at hs; subst hs; simp
  | [], _, k + 1, s, hs => by cases hs
  | r :: l, h, 0, s, hs => by
    rw [sm_zero, List.mem_singleton] at hs; subst hs
    have := (h r (by simp))
    have m := Int.mul_nonneg (show 0 ≤ B by omega) (show (0 : Int) ≤ ((r :: l).length : Int) by omega)
    omega
  | r :: l, h, k + 1, s, hs => by
    have hr := h r (by simp)
    have ih := sm_bd l (fun x hx => h x (by simp [hx]))
    rw [sm_cons] at hs
    have e : B * ((r :: l).length : Int) = B * l.length + B := by rw [List.length_cons]; push_cast; rw [Int.mul_add, Int.mul_one]
    rw [e]
    rcases List.mem_append.1 hs with hs | hs
    · have := ih _ s hs; omega
    · obtain ⟨t, ht, rfl⟩ := List.mem_map.1 hs
      have := ih _ t ht; omega
/-- Nothing below B but block t has turned. -/
structure Btw (B t : Nat) (w w' : World) : Prop where
  os : w'.os = w.os
  tape : w'.tape = w.tape
  output : w'.output = w.output
  size : w.heap.size ≤ w'.heap.size
  block : ∀ k, k < B → k ≠ t → w'.heap[k]? = w.heap[k]?
theorem Btw.refl (B t : Nat) (w : World) : Btw B t w w := ⟨rfl, rfl, rfl, Nat.le_refl _, fun _ _ _ => rfl⟩
theorem Btw.trans {B t : Nat} {a b c : World} (h : Btw B t a b) (k : Btw B t b c) : Btw B t a c := ⟨k.os.trans h.os, k.tape.trans h.tape, k.output.trans h.output, Nat.le_trans h.size k.size, fun i hi hn => (k.block i hi hn).trans (h.block i hi hn)⟩
theorem Btw.by_ {B t : Nat} {a b c : World} {row : Option Nat} (h : Btw B t a b) (hg : b.grownBy c row) (hB : B ≤ b.heap.size) (hr : ∀ j, row = some j → B ≤ j ∨ j = t) : Btw B t a c :=
  ⟨hg.os.trans h.os, hg.tape.trans h.tape, hg.output.trans h.output, Nat.le_trans h.size hg.size, fun i hi hn => (hg.block i (Nat.lt_of_lt_of_le hi hB) (fun e => by rcases hr i e.symm with h1 | h1; exact absurd hi (Nat.not_lt.2 h1); exact hn h1)).trans (h.block i hi hn)⟩
theorem Btw.below {B t : Nat} {w w' : World} (h : Btw B t w w') {B' : Nat} (h1 : B' ≤ B) (h2 : B' ≤ t) : Below B' w w' := ⟨h.os, h.tape, h.output, h.size, fun i hi => h.block i (by omega) (by omega)⟩
theorem Btw.cell {B t : Nat} {w w' : World} (h : Btw B t w w') {a : Addr} (h1 : a.block < B) (h2 : a.block ≠ t) : w'.cell? a = w.cell? a := World.cell?_of_block (h.block _ h1 h2)
/-- The block as it was. -/
theorem Btw.grown {B t : Nat} {w w' : World} (h : Btw B t w w') {b : Nat} (h1 : b < B) (h2 : b ≠ t) : w'.heap[b]? = w.heap[b]? := h.block b h1 h2
end Go.Proofs.YtmnipggjjcmjkaaGreat
