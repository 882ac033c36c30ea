/-
  Joined classes as the program's two lists have them (the first one at the bottom); how great they get. No function of the program is walked here.
-/
import Derived.Test.YtmnipggjjcmjkaaPav0
import Derived.Test.YtmnipggjjcmjkaaOwnG
import Derived.Test.YtmnipggjjcmjkaaAlD
set_option linter.unusedSimpArgs false
set_option linter.unusedVariables false
namespace Go.Proofs.Ytmnipggjjcmjkaa
open Go.RowKit Dg

/-- A class in two cells. -/
def ClC (_ : World) (cs : List Value) (x : Cls) : Prop := cs = [.int .i64 x.1, .int .i64 x.2]
theorem ClC.kept : Kept ClC := fun _ _ _ _ h _ => h
theorem cls_info : (Try.prog.info? 48).map (fun i => (i.zero, i.size, i.bytes)) = some (some (.agg #[.int .i64 0, .int .i64 0]), 2, 16) := by kernel_rfl
def clAt (L : List Cls) (i : Nat) : Cls := L.getD i (0, 0)
theorem clAt_some {L : List Cls} {i : Nat} (h : i < L.length) : L[i]? = some (clAt L i) := by unfold clAt; rw [List.getD_eq_getElem?_getD, List.getElem?_eq_getElem h]; rfl
theorem rowCl_at {w : World} {U : TypeId} {b o n c : Nat} {L : List Cls} {i : Nat} (h : Rows 2 U ClC w (.slice (some ⟨b, o, none⟩) n c) L) (hi : i < L.length) :
    w.cell? ⟨b, o + i * 2, none⟩ = some (.int .i64 (clAt L i).1) ∧ w.cell? ⟨b, o + i * 2 + 1, none⟩ = some (.int .i64 (clAt L i).2) ∧ b < w.heap.size := by
  obtain ⟨b', o', c', cs, hv, _, hat, rfl⟩ := h.get (clAt_some hi)
  obtain ⟨e, rfl⟩ := sliceE hv
  injection e with e
  injection e with e1 e2
  subst e1 e2
  exact ⟨hat 0 _ rfl, hat 1 _ rfl, cell_lt (hat 0 _ rfl)⟩
theorem RowsI.openI {α : Type} {size : Nat} {R : World → List Value → α → Prop} {w : World} {v : Value} {l : List α} (h : RowsI size R w v l) (hl : 0 < l.length) : ∃ b o c, v = .slice (some ⟨b, o, none⟩) l.length c ∧ l.length ≤ c ∧ c ≤ 9223372036854775807 := by
  obtain ⟨ao, c, e, h1, h2, h3, h5⟩ := h
  obtain ⟨b, o, cs, rfl, _⟩ := h5 0 _ (List.getElem?_eq_getElem hl)
  exact ⟨b, o, c, e, h1, h2⟩
theorem rowClI_at {w : World} {b o n c : Nat} {L : List Cls} {i : Nat} (h : RowsI 2 ClC w (.slice (some ⟨b, o, none⟩) n c) L) (hi : i < L.length) :
    w.cell? ⟨b, o + i * 2, none⟩ = some (.int .i64 (clAt L i).1) ∧ w.cell? ⟨b, o + i * 2 + 1, none⟩ = some (.int .i64 (clAt L i).2) ∧ b < w.heap.size := by
  obtain ⟨b', o', c', cs, hv, _, hat, rfl⟩ := h.get (clAt_some hi)
  obtain ⟨e, rfl⟩ := sliceE hv
  injection e with e
  injection e with e1 e2
  subst e1 e2
  exact ⟨hat 0 _ rfl, hat 1 _ rfl, cell_lt (hat 0 _ rfl)⟩
theorem ownCl_at {base cap : Nat} {w : World} {U : TypeId} {g : Nat} {L : List Cls} {i : Nat} {x : Cls} (h : OwnG base U 2 ClC cap w g L) (hx : L[i]? = some x) :
    w.cell? ⟨g, i * 2, none⟩ = some (.int .i64 x.1) ∧ w.cell? ⟨g, i * 2 + 1, none⟩ = some (.int .i64 x.2) := by
  obtain ⟨cs, _, rfl, hat⟩ := h.cell hx
  exact ⟨hat 0 _ rfl, hat 1 _ rfl⟩
theorem ownI_at {base cap : Nat} {w : World} {U : TypeId} {g : Nat} {L : List Int} {i : Nat} {x : Int} (h : OwnG base U 1 IC cap w g L) (hx : L[i]? = some x) : w.cell? ⟨g, i, none⟩ = some (.int .i64 x) := by
  obtain ⟨cs, _, rfl, hat⟩ := h.cell hx
  have := hat 0 _ rfl
  rwa [Nat.mul_one, Nat.add_zero] at this
theorem ownCl_put0 {base cap : Nat} {w w' : World} {U : TypeId} {g : Nat} {L : List Cls} {i : Nat} {x : Cls} {u : Int} (h : OwnG base U 2 ClC cap w g L) (hx : L[i]? = some x) (hT : U ≠ 93 ∧ U ≠ 153) (hG : Gr [] (w.setCell ⟨g, i * 2, none⟩ (.int .i64 u)) w') : OwnG base U 2 ClC cap w' g (L.set i (u, x.2)) :=
  h.put ClC.kept (j := 0) hx (by decide) hT (fun _ cs _ h => by subst h; rfl) hG
theorem ownCl_put1 {base cap : Nat} {w w' : World} {U : TypeId} {g : Nat} {L : List Cls} {i : Nat} {x : Cls} {u : Int} (h : OwnG base U 2 ClC cap w g L) (hx : L[i]? = some x) (hT : U ≠ 93 ∧ U ≠ 153) (hG : Gr [] (w.setCell ⟨g, i * 2 + 1, none⟩ (.int .i64 u)) w') : OwnG base U 2 ClC cap w' g (L.set i (x.1, u)) :=
  h.put ClC.kept (j := 1) hx (by decide) hT (fun _ cs _ h => by subst h; rfl) hG
theorem ownI_put {base cap : Nat} {w w' : World} {U : TypeId} {g : Nat} {L : List Int} {i : Nat} {x u : Int} (h : OwnG base U 1 IC cap w g L) (hx : L[i]? = some x) (hT : U ≠ 93 ∧ U ≠ 153) (hG : Gr [] (w.setCell ⟨g, i, none⟩ (.int .i64 u)) w') : OwnG base U 1 IC cap w' g (L.set i u) :=
  h.put IC.kept (j := 0) hx (by decide) hT (fun _ cs _ h => by subst h; rfl) (by rw [Nat.mul_one, Nat.add_zero]; exact hG)

/-- The joined classes, the first one first; and how many classes each one has. -/
def stJ (s : List (List Cls)) : List Cls := s.reverse.map sumC
def stM (s : List (List Cls)) : List Int := s.reverse.map fun a => (a.length : Int)
def stJ1 (a b : List Cls) (r : List (List Cls)) : List Cls := stJ r ++ [((sumC b).1 + (sumC a).1, (sumC b).2), sumC a]
def stJ2 (a b : List Cls) (r : List (List Cls)) : List Cls := stJ r ++ [sumC (b ++ a), sumC a]
def stM1 (a b : List Cls) (r : List (List Cls)) : List Int := stM r ++ [((b ++ a).length : Int), (a.length : Int)]
theorem stJ_len (s : List (List Cls)) : (stJ s).length = s.length := by simp [stJ]
theorem stM_len (s : List (List Cls)) : (stM s).length = s.length := by simp [stM]
theorem stJ_cons (a : List Cls) (r : List (List Cls)) : stJ (a :: r) = stJ r ++ [sumC a] := by simp [stJ]
theorem stM_cons (a : List Cls) (r : List (List Cls)) : stM (a :: r) = stM r ++ [(a.length : Int)] := by simp [stM]
section
variable {a b : List Cls} {r : List (List Cls)} {m : Nat}
theorem stJ2_len (h : r.length = m) : (stJ (a :: b :: r)).length = m + 2 := by rw [stJ_len]; simp [h]
theorem stM2_len (h : r.length = m) : (stM (a :: b :: r)).length = m + 2 := by rw [stM_len]; simp [h]
theorem two_at {α : Type} {l : List α} {x y : α} (h : l.length = m) : (l ++ [x, y])[m]? = some x ∧ (l ++ [x, y])[m + 1]? = some y := by
  constructor
  · rw [List.getElem?_append_right (by omega), h, Nat.sub_self]; rfl
  · rw [List.getElem?_append_right (by omega), h, show m + 1 - m = 1 by omega]; rfl
theorem two_set {α : Type} {l : List α} {x y z : α} (h : l.length = m) : (l ++ [x, y]).set m z = l ++ [z, y] := by
  rw [List.set_append_right _ _ (by omega), h, Nat.sub_self]; rfl
theorem two_take {α : Type} {l : List α} {x y : α} (h : l.length = m) : (l ++ [x, y]).take (m + 1) = l ++ [x] := by
  rw [List.take_append, h, show m + 1 - m = 1 by omega, List.take_of_length_le (by omega)]; rfl
theorem stJ_two (a b : List Cls) (r : List (List Cls)) : stJ (a :: b :: r) = stJ r ++ [sumC b, sumC a] := by rw [stJ_cons, stJ_cons, List.append_assoc]; rfl
theorem stM_two (a b : List Cls) (r : List (List Cls)) : stM (a :: b :: r) = stM r ++ [(b.length : Int), (a.length : Int)] := by rw [stM_cons, stM_cons, List.append_assoc]; rfl
theorem stJ_at (h : r.length = m) : (stJ (a :: b :: r))[m]? = some (sumC b) ∧ (stJ (a :: b :: r))[m + 1]? = some (sumC a) := by rw [stJ_two]; exact two_at ((stJ_len r).trans h)
theorem stM_at (h : r.length = m) : (stM (a :: b :: r))[m]? = some (b.length : Int) ∧ (stM (a :: b :: r))[m + 1]? = some (a.length : Int) := by rw [stM_two]; exact two_at ((stM_len r).trans h)
theorem stJ1_at (h : r.length = m) : (stJ1 a b r)[m]? = some ((sumC b).1 + (sumC a).1, (sumC b).2) ∧ (stJ1 a b r)[m + 1]? = some (sumC a) := two_at ((stJ_len r).trans h)
theorem stJ_set (h : r.length = m) : (stJ (a :: b :: r)).set m ((sumC b).1 + (sumC a).1, (sumC b).2) = stJ1 a b r := by rw [stJ_two]; exact two_set ((stJ_len r).trans h)
theorem stJ1_set (h : r.length = m) : (stJ1 a b r).set m ((sumC b).1 + (sumC a).1, (sumC b).2 + (sumC a).2) = stJ2 a b r := by
  unfold stJ2; rw [sumC_append]; exact two_set ((stJ_len r).trans h)
theorem stM_set (h : r.length = m) : (stM (a :: b :: r)).set m ((b.length : Int) + (a.length : Int)) = stM1 a b r := by
  rw [stM_two]
  unfold stM1
  rw [show ((b ++ a).length : Int) = (b.length : Int) + (a.length : Int) by simp]
  exact two_set ((stM_len r).trans h)
theorem stJ2_take (h : r.length = m) : (stJ2 a b r).take (m + 1) = stJ ((b ++ a) :: r) := by rw [stJ_cons]; exact two_take ((stJ_len r).trans h)
theorem stM1_take (h : r.length = m) : (stM1 a b r).take (m + 1) = stM ((b ++ a) :: r) := by rw [stM_cons]; exact two_take ((stM_len r).trans h)
theorem stJ12_len (h : r.length = m) : (stJ1 a b r).length = m + 2 ∧ (stJ2 a b r).length = m + 2 ∧ (stM1 a b r).length = m + 2 := by
  unfold stJ1 stJ2 stM1
  simp [stJ_len, stM_len, h]
end
/-- Right classes. -/
def ClOk (c : Cls) : Prop := 1 ≤ c.1 ∧ c.1 ≤ 64 ∧ 0 ≤ c.2 ∧ c.2 ≤ c.1
theorem sumC_bd : ∀ l : List Cls, (∀ c ∈ l, ClOk c) → (l.length : Int) ≤ (sumC l).1 ∧ (sumC l).1 ≤ 64 * l.length ∧ 0 ≤ (sumC l).2 ∧ (sumC l).2 ≤ (sumC l).1
  | [], _ => by simp [sumC]
  | c :: l, h => by
    have a := h c (by simp)
    have b := sumC_bd l (fun x hx => h x (by simp [hx]))
    unfold ClOk at a
    show ((l.length + 1 : Nat) : Int) ≤ c.1 + (sumC l).1 ∧ c.1 + (sumC l).1 ≤ 64 * ((l.length + 1 : Nat) : Int) ∧ 0 ≤ c.2 + (sumC l).2 ∧ c.2 + (sumC l).2 ≤ c.1 + (sumC l).1
    omega
theorem mem_flatR {s : List (List Cls)} {a : List Cls} (h : a ∈ s) : (∀ c ∈ a, c ∈ flatR s) ∧ a.length ≤ (flatR s).length := by
  induction s with
  | nil => simp at h
  | cons b s ih =>
    rw [flatR_cons]
    rcases List.mem_cons.1 h with rfl | h
    · exact ⟨fun c hc => List.mem_append.2 (.inr hc), by simp⟩
    · obtain ⟨i, j⟩ := ih h
      exact ⟨fun c hc => List.mem_append.2 (.inl (i c hc)), by rw [List.length_append]; omega⟩
/-- A segment of at most 16 right classes. -/
theorem seg_bd {s : List (List Cls)} {l : List Cls} (hl : l.length ≤ 16) (hok : ∀ c ∈ l, ClOk c) (hs : flatR s = l) {a : List Cls} (ha : a ∈ s) (hne : a ≠ []) : 1 ≤ (sumC a).1 ∧ (sumC a).1 ≤ 1024 ∧ 0 ≤ (sumC a).2 ∧ (sumC a).2 ≤ 1024 ∧ 1 ≤ a.length ∧ a.length ≤ 16 := by
  obtain ⟨i, j⟩ := mem_flatR ha
  rw [hs] at j
  have b := sumC_bd a (fun c hc => hok c (hs ▸ i c hc))
  have p : 0 < a.length := List.length_pos_iff.2 hne
  omega
end Go.Proofs.Ytmnipggjjcmjkaa
