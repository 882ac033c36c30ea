/-
  The small functions of law 07: of, is, short.
-/
import Derived.Test.YtlmemilmhdhgbaaGreatPkScanO
import Derived.Test.YtlmemilmhdhgbaaGreatPkOpsO
set_option linter.unusedSimpArgs false
set_option linter.unusedVariables false
namespace Go.Proofs.YtlmemilmhdhgbaaGreat
open Go.RowKit Dg
attribute [local go_sem ↓] Go.wp_at_zero Go.wp_at_succ
theorem pTextS {w : World} {v : Value} {x : Rat} {s : ByteArray} (hs : strV (textQ x) = .string s) (hx : PV w v x) (fx : Fit x) : Calls Tryz.prog 23 #[v] w (RetV w (.string s)) := hs ▸ pText hx fx
theorem rTextS {w : World} {v : Value} {x : Rat} {s : ByteArray} (hs : strV (textQ x) = .string s) (hx : RV w v x) (fx : Fit x) : Calls Tryz.prog 50 #[v] w (RetI w (.string s)) := hs ▸ rText hx fx
end Go.Proofs.YtlmemilmhdhgbaaGreat
namespace Go.Proofs.YtlmemilmhdhgbaaGreat
open Go.RowKit Dg
attribute [local go_sem ↓] Go.wp_at_zero Go.wp_at_succ
def FC (_ : World) (cs : List Value) (x : Int × Int) : Prop := cs = [.int .i64 x.1, .int .i64 x.2]
theorem FC.kept : Kept FC := fun _ _ _ _ h _ => h
theorem allF_take {α : Type} (f : α → Bool) (l : List α) (k : Nat) (x : α) (h : l[k]? = some x) (ht : (l.take k).all f = true) : (l.take (k + 1)).all f = f x := by
 have hk : k < l.length := (List.getElem?_eq_some_iff.1 h).1
 have hx : l[k] = x := (List.getElem?_eq_some_iff.1 h).2
 rw [List.take_succ_eq_append_getElem hk, List.all_append, ht, hx]
 simp
theorem allF_false {α : Type} (f : α → Bool) (l : List α) (k : Nat) (h : (l.take k).all f = false) : l.all f = false := by
 rw [List.all_eq_false] at *
 obtain ⟨x, hx, h⟩ := h
 exact ⟨x, List.mem_of_mem_take hx, h⟩
end Go.Proofs.YtlmemilmhdhgbaaGreat
namespace Go.Proofs.YtlmemilmhdhgbaaGreat
open Go.RowKit Dg
def DOk (x : Int × Int) : Prop := -9223372036854775808 ≤ x.1 ∧ x.1 ≤ 9223372036854775807 ∧ -9223372036854775808 ≤ x.2 ∧ x.2 ≤ 9223372036854775807
theorem map_take {α β : Type} (f : α → β) (l : List α) (k : Nat) (x : α) (h : l[k]? = some x) : (l.take (k + 1)).map f = (l.take k).map f ++ [f x] := by
  have hk : k < l.length := (List.getElem?_eq_some_iff.1 h).1
  have hx : l[k] = x := (List.getElem?_eq_some_iff.1 h).2
  rw [List.take_succ_eq_append_getElem hk, hx, List.map_append]
  rfl
end Go.Proofs.YtlmemilmhdhgbaaGreat
