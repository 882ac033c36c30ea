/-
  The contracts of the reference's natural numbers, first part: cut, Nat, Order, Sum, Difference.
-/
import Derived.Test.YtkfekkhhfpkfaaaProg
import Derived.Test.YtkfekkhhfpkfaaaPkMem
set_option linter.unusedSimpArgs false
set_option linter.unusedVariables false
namespace Go.Proofs.Ytkfekkhhfpkfaaa
open Go.RowKit Dg

/-- The call hands back a slice with the digits of x, in memory of its own or in memory that was there, and changes nothing that was there. -/
def RetNat (k : IntKind) (B : Nat) (w : World) (x : Nat) (e : Ending) (w' : World) : Prop := ∃ v, e = .returned v ∧ NatV k B w' v x ∧ Below w.heap.size w w' ∧ Fresh w.heap.size v

theorem info_u32 : (Try.prog.info? 133).map (fun i => (i.zero, i.size, i.bytes)) = some (some (.int .u32 0), 1, 4) := by kernel_rfl

/-- What the reference's 'cut' leaves of a list of digits. -/
def CutTo (B : Nat) (ao : Option Addr) (n c : Nat) (l : List Nat) (w : World) (e : Ending) (w' : World) : Prop :=
  ∃ m, m ≤ n ∧ Canon B (l.take m) ∧ val B (l.take m) = val B l ∧ e = .returned (.slice ao m c) ∧ w = w'

set_option maxRecDepth 100000 in
set_option maxHeartbeats 400000 in
theorem r_cut_calls (B : Nat) (ao : Option Addr) (n c : Nat) (l : List Nat) (w : World) (hs : Sl .u32 w ao n c l) (hd : Digs B l) :
    Calls Try.prog 80 #[.slice ao n c] w (CutTo B ao n c l w) := by
  have hn := hs.cap
  have hcM := hs.max
  have HS := Lib.hid hs; clear hs
  have HD := Lib.hid hd; clear hd
  go_enter Try.func80, Try.ntmps80
  go_wp2
  go_loop [3] (fun s => ∃ k : Nat, k ≤ n ∧ (∀ i, k ≤ i → l[i]?.getD 0 = 0) ∧ s = .int .i64 k) (fun s => (intOf s).toNat)
  case atStart => exact ⟨n, by omega, by intro i hi; rw [List.getElem?_eq_none (by have := HS.out.len; omega)]; rfl, rfl⟩
  case round =>
    obtain ⟨k, hk, hz, rfl⟩ := hrel
    have HZ := Lib.hid hz; clear hz
    by_cases h0 : k = 0
    · subst h0
      go_wp2
      go_ret
      exact ⟨0, by omega, canon_cut HD.out 0 (by omega) (by omega), val_cut _ _ _ HZ.out (by omega), rfl, rfl⟩
    · obtain ⟨j, rfl⟩ : ∃ j, k = j + 1 := ⟨k-1, by omega⟩
      obtain ⟨b, o, rfl, hcell⟩ := HS.out.at (i := j) (by omega)
      by_cases hd : l[j]?.getD 0 = 0
      · rw [hd] at hcell
        go_wp2
        go_round
        case rel => exact ⟨j, by omega, by intro i hi; by_cases e : i = j; (· rw [e]; exact hd); (· exact HZ.out i (by omega)), by go_num⟩
        all_goals first | (simp [intOf]; done) | (simp [intOf]; omega)
      · have hd' : ((l[j]?.getD 0 : Nat) : Int) ≠ 0 := by omega
        go_wp2
        go_ret
        exact ⟨j+1, by omega, canon_cut HD.out _ (by have := HS.out.len; omega) (by intro; simpa using hd), val_cut _ _ _ HZ.out (by have := HS.out.len; omega), rfl, rfl⟩

set_option maxRecDepth 100000 in
set_option maxHeartbeats 400000 in
theorem r_Nat_calls (x : Int) (w : World) (h0 : 0 ≤ x) (h1 : x < 18446744073709551616) : Calls Try.prog 65 #[.int .u64 x] w (RetNat .u32 4294967296 w x.toNat) := by
  obtain ⟨n, rfl⟩ := Int.eq_ofNat_of_zero_le h0
  go_enter Try.func65, Try.ntmps65
  go_wp2_with fail
  refine (r_cut_calls 4294967296 _ 2 2 [n % 4294967296, n / 4294967296] _ ?_ ?_).mono ?_
  · have hb : Blk .u32 133 (w.alloc (Obj.cells #[Value.int IntKind.u32 (↑n % 4294967296), Value.int IntKind.u32 (↑n / 4294967296)] 133)) w.heap.size [n % 4294967296, n / 4294967296] := Blk.new .u32 133 w [n % 4294967296, n / 4294967296]
    exact hb.sl (by simp)
  · intro d hd; simp only [List.mem_cons, List.mem_nil_iff, or_false] at hd; omega
  rintro e w' ⟨m, hm, hc, hv, rfl, rfl⟩
  go_wp2
  go_ret
  have hb : Blk .u32 133 (w.alloc (Obj.cells #[Value.int IntKind.u32 (↑n % 4294967296), Value.int IntKind.u32 (↑n / 4294967296)] 133)) w.heap.size [n % 4294967296, n / 4294967296] := Blk.new .u32 133 w [n % 4294967296, n / 4294967296]
  refine ⟨_, rfl, ⟨_, _, _, _, rfl, (hb.sl (by simp)).take m hm, hc, ?_⟩, (Below.refl _ _).alloc (Nat.le_refl _) _, Fresh.at _ _ _ _⟩
  rw [hv, val_two, Int.toNat_natCast]
  omega


end Go.Proofs.Ytkfekkhhfpkfaaa
