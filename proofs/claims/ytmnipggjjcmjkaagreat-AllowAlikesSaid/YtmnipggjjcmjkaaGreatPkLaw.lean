/-
  The small functions of law 07: of, is, short.
-/
import Derived.Test.YtmnipggjjcmjkaaGreatPkScan
import Derived.Test.YtmnipggjjcmjkaaGreatPkOps
set_option linter.unusedSimpArgs false
set_option linter.unusedVariables false
namespace Go.Proofs.YtmnipggjjcmjkaaGreat
open Go.RowKit Dg
attribute [local go_sem ↓] Go.wp_at_zero Go.wp_at_succ


theorem pTextS {w : World} {v : Value} {x : Rat} {s : ByteArray} (hs : strV (textQ x) = .string s) (hx : PV w v x) (fx : Fit x) : Calls Tryz.prog 63 #[v] w (RetV w (.string s)) := hs ▸ pText hx fx
theorem rTextS {w : World} {v : Value} {x : Rat} {s : ByteArray} (hs : strV (textQ x) = .string s) (hx : RV w v x) (fx : Fit x) : Calls Tryz.prog 76 #[v] w (RetI w (.string s)) := hs ▸ rText hx fx

end Go.Proofs.YtmnipggjjcmjkaaGreat
/-
  Law 07: are all numbers short?
-/
namespace Go.Proofs.YtmnipggjjcmjkaaGreat
open Go.RowKit Dg
attribute [local go_sem ↓] Go.wp_at_zero Go.wp_at_succ

/-- The two cells of a fraction of plain data. -/
def FC (_ : World) (cs : List Value) (x : Int × Int) : Prop := cs = [.int .i64 x.1, .int .i64 x.2]
theorem FC.kept : Kept FC := fun _ _ _ _ h _ => h
/-- At most 30 bits above and below. -/
def shortF (x : Int × Int) : Bool := !(decide (1073741824 < x.1) || (decide (x.1 < -1073741824) || decide (1073741824 < x.2)))
theorem allF_take {α : Type} (f : α → Bool) (l : List α) (k : Nat) (x : α) (h : l[k]? = some x) (ht : (l.take k).all f = true) : (l.take (k + 1)).all f = f x := by
  have hk : k < l.length := (List.getElem?_eq_some_iff.1 h).1
  have hx : l[k] = x := (List.getElem?_eq_some_iff.1 h).2
  rw [List.take_succ_eq_append_getElem hk, List.all_append, ht, hx]
  simp
theorem allF_false {α : Type} (f : α → Bool) (l : List α) (k : Nat) (h : (l.take k).all f = false) : l.all f = false := by
  rw [List.all_eq_false] at *
  obtain ⟨x, hx, h⟩ := h
  exact ⟨x, List.mem_of_mem_take hx, h⟩

end Go.Proofs.YtmnipggjjcmjkaaGreat
/-
  Law 07: numbers of 64 bits; the first elements of a list and one more. No function of the program is in sight here.
-/
namespace Go.Proofs.YtmnipggjjcmjkaaGreat
open Go.RowKit Dg

def DOk (x : Int × Int) : Prop := -9223372036854775808 ≤ x.1 ∧ x.1 ≤ 9223372036854775807 ∧ -9223372036854775808 ≤ x.2 ∧ x.2 ≤ 9223372036854775807
theorem map_take {α β : Type} (f : α → β) (l : List α) (k : Nat) (x : α) (h : l[k]? = some x) : (l.take (k + 1)).map f = (l.take k).map f ++ [f x] := by
  have hk : k < l.length := (List.getElem?_eq_some_iff.1 h).1
  have hx : l[k] = x := (List.getElem?_eq_some_iff.1 h).2
  rw [List.take_succ_eq_append_getElem hk, hx, List.map_append]
  rfl
theorem C2.openP {w : World} {cs : List Value} {x : Rat × Rat} (h : C2 PC w cs x) : ∃ g1 a1 n1 c1 A1 N1 D1 g2 a2 n2 c2 A2 N2 D2,
    cs = [.bool g1, .slice a1 n1 c1, .slice A1 N1 D1, .bool g2, .slice a2 n2 c2, .slice A2 N2 D2] ∧ PV w (.agg #[.bool g1, .slice a1 n1 c1, .slice A1 N1 D1]) x.1 ∧ PV w (.agg #[.bool g2, .slice a2 n2 c2, .slice A2 N2 D2]) x.2 := by
  obtain ⟨_, _, rfl, ⟨p1, p2, p3, rfl, h1⟩, ⟨q1, q2, q3, rfl, h2⟩⟩ := h
  obtain ⟨g1, a1, n1, c1, A1, N1, D1, e⟩ := h1.shape
  obtain ⟨rfl, rfl, rfl⟩ := agg3 e
  obtain ⟨g2, a2, n2, c2, A2, N2, D2, e⟩ := h2.shape
  obtain ⟨rfl, rfl, rfl⟩ := agg3 e
  exact ⟨_, _, _, _, _, _, _, _, _, _, _, _, _, _, rfl, h1, h2⟩
end Go.Proofs.YtmnipggjjcmjkaaGreat
