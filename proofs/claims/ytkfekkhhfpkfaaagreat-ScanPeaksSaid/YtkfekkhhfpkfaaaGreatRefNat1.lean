/-
  The contracts of the reference's natural numbers, first part: cut, Nat, Order, Sum, Difference.
-/
import Derived.Test.YtkfekkhhfpkfaaaGreatProg
import Derived.Test.YtkfekkhhfpkfaaaGreatPkMem
set_option linter.unusedSimpArgs false
set_option linter.unusedVariables false
namespace Go.Proofs.YtkfekkhhfpkfaaaGreat
open Go.RowKit Dg

/-- The call hands back a slice with the digits of x, in memory of its own or in memory that was there, and changes nothing that was there. -/
def RetNat (k : IntKind) (B : Nat) (w : World) (x : Nat) (e : Ending) (w' : World) : Prop := ∃ v, e = .returned v ∧ NatV k B w' v x ∧ Below w.heap.size w w' ∧ Fresh w.heap.size v

theorem info_u32 : (Tryz.prog.info? 62).map (fun i => (i.zero, i.size, i.bytes)) = some (some (.int .u32 0), 1, 4) := by kernel_rfl

/-- What the reference's 'cut' leaves of a list of digits. -/
def CutTo (B : Nat) (ao : Option Addr) (n c : Nat) (l : List Nat) (w : World) (e : Ending) (w' : World) : Prop :=
  ∃ m, m ≤ n ∧ Canon B (l.take m) ∧ val B (l.take m) = val B l ∧ e = .returned (.slice ao m c) ∧ w = w'

set_option maxRecDepth 100000 in
set_option maxHeartbeats 400000 in
theorem r_cut_calls (B : Nat) (ao : Option Addr) (n c : Nat) (l : List Nat) (w : World) (hs : Sl .u32 w ao n c l) (hd : Digs B l) :
    Calls Tryz.prog 163 #[.slice ao n c] w (CutTo B ao n c l w) := by
  have hn := hs.cap
  have hcM := hs.max
  have HS := Lib.hid hs; clear hs
  have HD := Lib.hid hd; clear hd
  go_enter Tryz.func163, Tryz.ntmps163
  go_wp2
  go_loop [3] (fun s => ∃ k : Nat, k ≤ n ∧ (∀ i, k ≤ i → l[i]?.getD 0 = 0) ∧ s = .int .i64 k) (fun s => (intOf s).toNat)
  case atStart => exact ⟨n, by omega, by intro i hi; rw [List.getElem?_eq_none (by have := HS.out.len; omega)]; rfl, rfl⟩
  case round =>
    obtain ⟨k, hk, hz, rfl⟩ := hrel
    have HZ := Lib.hid hz; clear hz
    by_cases h0 : k = 0
    · subst h0
      go_wp2
      go_ret
      exact ⟨0, by omega, canon_cut HD.out 0 (by omega) (by omega), val_cut _ _ _ HZ.out (by omega), rfl, rfl⟩
    · obtain ⟨j, rfl⟩ : ∃ j, k = j + 1 := ⟨k-1, by omega⟩
      obtain ⟨b, o, rfl, hcell⟩ := HS.out.at (i := j) (by omega)
      by_cases hd : l[j]?.getD 0 = 0
      · rw [hd] at hcell
        go_wp2
        go_round
        case rel => exact ⟨j, by omega, by intro i hi; by_cases e : i = j; (· rw [e]; exact hd); (· exact HZ.out i (by omega)), by go_num⟩
        all_goals first | (simp [intOf]; done) | (simp [intOf]; omega)
      · have hd' : ((l[j]?.getD 0 : Nat) : Int) ≠ 0 := by omega
        go_wp2
        go_ret
        exact ⟨j+1, by omega, canon_cut HD.out _ (by have := HS.out.len; omega) (by intro; simpa using hd), val_cut _ _ _ HZ.out (by have := HS.out.len; omega), rfl, rfl⟩

set_option maxRecDepth 100000 in
set_option maxHeartbeats 400000 in
theorem r_Nat_calls (x : Int) (w : World) (h0 : 0 ≤ x) (h1 : x < 18446744073709551616) : Calls Tryz.prog 123 #[.int .u64 x] w (RetNat .u32 4294967296 w x.toNat) := by
  obtain ⟨n, rfl⟩ := Int.eq_ofNat_of_zero_le h0
  go_enter Tryz.func123, Tryz.ntmps123
  go_wp2_with fail
  refine (r_cut_calls 4294967296 _ 2 2 [n % 4294967296, n / 4294967296] _ ?_ ?_).mono ?_
  · have hb : Blk .u32 62 (w.alloc (Obj.cells #[Value.int IntKind.u32 (↑n % 4294967296), Value.int IntKind.u32 (↑n / 4294967296)] 62)) w.heap.size [n % 4294967296, n / 4294967296] := Blk.new .u32 62 w [n % 4294967296, n / 4294967296]
    exact hb.sl (by simp)
  · intro d hd; simp only [List.mem_cons, List.mem_nil_iff, or_false] at hd; omega
  rintro e w' ⟨m, hm, hc, hv, rfl, rfl⟩
  go_wp2
  go_ret
  have hb : Blk .u32 62 (w.alloc (Obj.cells #[Value.int IntKind.u32 (↑n % 4294967296), Value.int IntKind.u32 (↑n / 4294967296)] 62)) w.heap.size [n % 4294967296, n / 4294967296] := Blk.new .u32 62 w [n % 4294967296, n / 4294967296]
  refine ⟨_, rfl, ⟨_, _, _, _, rfl, (hb.sl (by simp)).take m hm, hc, ?_⟩, (Below.refl _ _).alloc (Nat.le_refl _) _, Fresh.at _ _ _ _⟩
  rw [hv, val_two, Int.toNat_natCast]
  omega


set_option maxRecDepth 100000 in
set_option maxHeartbeats 400000 in
theorem r_Sum_calls (ao bo : Option Addr) (n c m d : Nat) (l l' : List Nat) (w : World) (hs : Sl .u32 w ao n c l) (hs' : Sl .u32 w bo m d l') (hd : Digs 4294967296 l) (hd' : Digs 4294967296 l')
    (hn : n ≤ 1099511627776) (hm : m ≤ 1099511627776) :
    Calls Tryz.prog 117 #[.slice ao n c, .slice bo m d] w (RetNat .u32 4294967296 w (val 4294967296 l + val 4294967296 l')) := by
  have HS := Lib.hid hs; clear hs
  have HS' := Lib.hid hs'; clear hs'
  have HD := Lib.hid hd; clear hd
  have HD' := Lib.hid hd'; clear hd'
  obtain ⟨i0, hi, hz0, hz1, hz2⟩ := info_parts info_u32
  go_enter Tryz.func117, Tryz.ntmps117
  go_wp2_with (at_make; refine wpList_make_u _ rfl _ _ 36 rfl 62 i0 .u32 Tryz.underlying36 hi hz0 hz1 _ _ _ _ (max n m + 1) (max n m + 1) rfl rfl ?c1 ?c2 (Nat.le_refl _) ?c3 ?c4 ?_)
  case c1.inl | c1.inr | c2.inl | c2.inr => omega
  case c3 => rw [hz2]; omega
  case c4 => omega
  all_goals
    go_loopw [6, 7] (fun cv iv wr => ∃ (k carry : Nat) (ol : List Nat), k ≤ max n m + 1 ∧ iv = .int .i64 k ∧ cv = .int .u64 carry ∧ carry ≤ 1 ∧ Blk .u32 62 wr w.heap.size ol ∧ ol.length = max n m + 1 ∧ Digs 4294967296 ol ∧
        val 4294967296 (ol.take k) + carry * 4294967296 ^ k = val 4294967296 (l.take k) + val 4294967296 (l'.take k) ∧ Below w.heap.size w wr) (fun _ iv _ => max n m + 1 - (intOf iv).toNat)
    case atStart => exact ⟨0, 0, _, by omega, rfl, rfl, by omega, Blk.new .u32 _ w _, by simp, Digs.zeros (by omega) _, by simp [val], (Below.refl _ _).alloc (Nat.le_refl _) _⟩
    case round =>
      obtain ⟨k, carry, ol, hk, rfl, rfl, hc1, hblk, hol, hdo, hval, hbel⟩ := hrel
      have e1 := (HS.out).mono hbel
      have e2 := (HS'.out).mono hbel
      have d1 := HD.out.get (by omega) k
      have d2 := HD'.out.get (by omega) k
      have HB := Lib.hid hblk
      have HO := Lib.hid hol
      have HV := Lib.hid hval
      have HDO := Lib.hid hdo
      have HBE := Lib.hid hbel
      have HE1 := Lib.hid e1
      have HE2 := Lib.hid e2
      have z1 : n ≤ k → l[k]?.getD 0 = 0 := fun h => by rw [List.getElem?_eq_none (by have := HS.out.len; omega)]; rfl
      have z2 : m ≤ k → l'[k]?.getD 0 = 0 := fun h => by rw [List.getElem?_eq_none (by have := HS'.out.len; omega)]; rfl
      have Z1 := Lib.hid z1
      have Z2 := Lib.hid z2
      clear hblk hol hval hdo hbel e1 e2 z1 z2
      by_cases hkL : k < max n m + 1
      · have hcell := HB.out.cell (j := k) (by have := HO.out; omega)
        have hfree := HB.out.free k
        have fin : ∀ (x : Nat), x = carry + l[k]?.getD 0 + l'[k]?.getD 0 → ∃ (k' carry' : Nat) (ol' : List Nat), k' ≤ max n m + 1 ∧ Value.int .i64 ((k : Int) + 1) = .int .i64 k' ∧ Value.int .u64 ((x : Int) / 4294967296) = .int .u64 carry' ∧ carry' ≤ 1 ∧
              Blk .u32 62 (wr.setCell ⟨w.heap.size, k, none⟩ (.int .u32 ((x : Int) % 4294967296))) w.heap.size ol' ∧ ol'.length = max n m + 1 ∧ Digs 4294967296 ol' ∧
              val 4294967296 (ol'.take k') + carry' * 4294967296 ^ k' = val 4294967296 (l.take k') + val 4294967296 (l'.take k') ∧ Below w.heap.size w (wr.setCell ⟨w.heap.size, k, none⟩ (.int .u32 ((x : Int) % 4294967296))) := by
          rintro x rfl
          refine ⟨k + 1, (carry + l[k]?.getD 0 + l'[k]?.getD 0) / 4294967296, ol.set k ((carry + l[k]?.getD 0 + l'[k]?.getD 0) % 4294967296), by omega, by go_num, rfl, by omega, ?_, by rw [List.length_set]; exact HO.out, HDO.out.set _ _ (Nat.mod_lt _ (by omega)), ?_, HBE.out.setCell (Nat.le_refl _) _⟩
          · exact HB.out.set _ _
          · exact sum_step _ _ _ _ _ _ (by rw [HO.out]; exact hkL) HV.out
        have FIN := Lib.hid fin
        clear fin
        by_cases h1 : k < n
        · obtain ⟨b1, o1, rfl, hc1⟩ := HE1.out.at h1
          by_cases h2 : k < m
          · obtain ⟨b2, o2, rfl, hc2⟩ := HE2.out.at h2
            go_wp2
            go_roundw
            case rel => exact FIN.out _ rfl
            all_goals first | (simp [intOf]; done) | (simp [intOf]; omega)
          · have h2' : m ≤ k := by omega
            go_wp2
            all_goals go_roundw
            all_goals try case rel => exact FIN.out (carry + l[k]?.getD 0) (by have := Z2.out h2'; omega)
            all_goals first | (simp [intOf]; done) | (simp [intOf]; omega)
        · have h1' : n ≤ k := by omega
          by_cases h2 : k < m
          · obtain ⟨b2, o2, rfl, hc2⟩ := HE2.out.at h2
            go_wp2
            all_goals go_roundw
            all_goals try case rel => exact FIN.out (carry + l'[k]?.getD 0) (by have := Z1.out h1'; omega)
            all_goals first | (simp [intOf]; done) | (simp [intOf]; omega)
          · have h2' : m ≤ k := by omega
            go_wp2
            go_roundw
            case rel => exact FIN.out carry (by have := Z1.out h1'; have := Z2.out h2'; omega)
            all_goals first | (simp [intOf]; done) | (simp [intOf]; omega)
      · go_wp2_with fail
        obtain rfl : k = max n m + 1 := by omega
        refine (r_cut_calls 4294967296 _ _ _ ol _ (by have := HB.out.sl (by have := HO.out; omega); rw [HO.out] at this; exact this) HDO.out).mono ?_
        rintro e w' ⟨j, hj, hcj, hvj, rfl, rfl⟩
        go_wp2
        go_ret
        refine ⟨_, rfl, ⟨_, _, _, _, rfl, (by have := HB.out.sl (by have := HO.out; omega); rw [HO.out] at this; exact this.take j hj), hcj, ?_⟩, HBE.out, Fresh.at _ _ _ _⟩
        rw [hvj]
        have hv := HV.out
        rw [← HO.out] at hv
        exact sum_end (by omega) HD.out HD'.out (by have := HS.out.len; have := HO.out; omega) (by have := HS'.out.len; have := HO.out; omega) hv
end Go.Proofs.YtkfekkhhfpkfaaaGreat
