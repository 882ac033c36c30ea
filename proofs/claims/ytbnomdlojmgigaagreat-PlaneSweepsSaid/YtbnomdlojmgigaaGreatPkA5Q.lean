/-
  Polygons: area without the vertices on straight edges; where a point lies; a moving box: plain laws.
-/
import Derived.Test.YtbnomdlojmgigaaGreatPkA2Q
import Derived.Test.YtbnomdlojmgigaaGreatProg
import Derived.Test.YtbnomdlojmgigaaGreatPkA0Q
import Derived.Test.YtbnomdlojmgigaaGreatPkA1Q
import Derived.Deep.QuietTactic
import Derived.BigQuiet
import Derived.Deep.LoopGhost
import Derived.Shelf.Spec.BitsCarry
set_option linter.unusedSimpArgs false
set_option linter.unusedVariables false
set_option maxRecDepth 100000
set_option maxHeartbeats 1000000
namespace Go.Proofs.YtbnomdlojmgigaaGreat
def twK (l : List Pt) : Nat → Int
  | 0 => 0
  | k + 1 => twK l k + crZ (ptZ l k) (ptZ l ((k + 1) % l.length))
def twZ (l : List Pt) : Int := twK l l.length
end Go.Proofs.YtbnomdlojmgigaaGreat
namespace Go.Proofs.YtbnomdlojmgigaaGreat
end Go.Proofs.YtbnomdlojmgigaaGreat
namespace Go.Proofs.YtbnomdlojmgigaaGreat
end Go.Proofs.YtbnomdlojmgigaaGreat
namespace Go.Proofs.YtbnomdlojmgigaaGreat
end Go.Proofs.YtbnomdlojmgigaaGreat
namespace Go.Proofs.YtbnomdlojmgigaaGreat
end Go.Proofs.YtbnomdlojmgigaaGreat
namespace Go.Proofs.YtbnomdlojmgigaaGreat
section
variable {p : Rat} (h0 : 0 ≤ p) (h1 : p ≤ 1)
include h0 h1
end
end Go.Proofs.YtbnomdlojmgigaaGreat
namespace Go.Proofs.YtbnomdlojmgigaaGreat
open Go.RowKit Dg
def RetNat (k : IntKind) (B : Nat) (w : World) (x : Nat) (e : Ending) (w' : World) : Prop := ∃ v, e = .returned v ∧ NatV k B w' v x ∧ Below w.heap.size w w' ∧ Fresh w.heap.size v
theorem info_u32 : (Tryz.prog.info? 150).map (fun i => (i.zero, i.size, i.bytes)) = some (some (.int .u32 0), 1, 4) := by kernel_rfl
def CutTo (B : Nat) (ao : Option Addr) (n c : Nat) (l : List Nat) (w : World) (e : Ending) (w' : World) : Prop :=
  ∃ m, m ≤ n ∧ Canon B (l.take m) ∧ val B (l.take m) = val B l ∧ e = .returned (.slice ao m c) ∧ w = w'
theorem r_cut_calls (B : Nat) (ao : Option Addr) (n c : Nat) (l : List Nat) (w : World) (hs : Sl .u32 w ao n c l) (hd : Digs B l) :
    Calls Tryz.prog 122 #[.slice ao n c] w (CutTo B ao n c l w) := by
  have hn := hs.cap
  have hcM := hs.max
  have HS := Lib.hid hs; clear hs
  have HD := Lib.hid hd; clear hd
  go_enter Tryz.func122, Tryz.ntmps122
  go_wp2
  go_loop [3] (fun s => ∃ k : Nat, k ≤ n ∧ (∀ i, k ≤ i → l[i]?.getD 0 = 0) ∧ s = .int .i64 k) (fun s => (intOf s).toNat)
  case atStart => exact ⟨n, by omega, by intro i hi; rw [List.getElem?_eq_none (by have := HS.out.len; omega)]; rfl, rfl⟩
  case round =>
    obtain ⟨k, hk, hz, rfl⟩ := hrel
    have HZ := Lib.hid hz; clear hz
    by_cases h0 : k = 0
    · subst h0
      go_wp2
      go_ret
      exact ⟨0, by omega, canon_cut HD.out 0 (by omega) (by omega), val_cut _ _ _ HZ.out (by omega), rfl, rfl⟩
    · obtain ⟨j, rfl⟩ : ∃ j, k = j + 1 := ⟨k-1, by omega⟩
      obtain ⟨b, o, rfl, hcell⟩ := HS.out.at (i := j) (by omega)
      by_cases hd : l[j]?.getD 0 = 0
      · rw [hd] at hcell
        go_wp2
        go_round
        case rel => exact ⟨j, by omega, by intro i hi; by_cases e : i = j; (· rw [e]; exact hd); (· exact HZ.out i (by omega)), by go_num⟩
        all_goals first | (simp [intOf]; done) | (simp [intOf]; omega)
      · have hd' : ((l[j]?.getD 0 : Nat) : Int) ≠ 0 := by omega
        go_wp2
        go_ret
        exact ⟨j+1, by omega, canon_cut HD.out _ (by have := HS.out.len; omega) (by intro; simpa using hd), val_cut _ _ _ HZ.out (by have := HS.out.len; omega), rfl, rfl⟩
theorem r_Nat_calls (x : Int) (w : World) (h0 : 0 ≤ x) (h1 : x < 18446744073709551616) : Calls Tryz.prog 91 #[.int .u64 x] w (RetNat .u32 4294967296 w x.toNat) := by
  obtain ⟨n, rfl⟩ := Int.eq_ofNat_of_zero_le h0
  go_enter Tryz.func91, Tryz.ntmps91
  go_wp2_with fail
  refine (r_cut_calls 4294967296 _ 2 2 [n % 4294967296, n / 4294967296] _ ?_ ?_).mono ?_
  · have hb : Blk .u32 150 (w.alloc (Obj.cells #[Value.int IntKind.u32 (↑n % 4294967296), Value.int IntKind.u32 (↑n / 4294967296)] 150)) w.heap.size [n % 4294967296, n / 4294967296] := Blk.new .u32 150 w [n % 4294967296, n / 4294967296]
    exact hb.sl (by simp)
  · intro d hd; simp only [List.mem_cons, List.mem_nil_iff, or_false] at hd; omega
  rintro e w' ⟨m, hm, hc, hv, rfl, rfl⟩
  go_wp2
  go_ret
  have hb : Blk .u32 150 (w.alloc (Obj.cells #[Value.int IntKind.u32 (↑n % 4294967296), Value.int IntKind.u32 (↑n / 4294967296)] 150)) w.heap.size [n % 4294967296, n / 4294967296] := Blk.new .u32 150 w [n % 4294967296, n / 4294967296]
  refine ⟨_, rfl, ⟨_, _, _, _, rfl, (hb.sl (by simp)).take m hm, hc, ?_⟩, (Below.refl _ _).alloc (Nat.le_refl _) _, Fresh.at _ _ _ _⟩
  rw [hv, val_two, Int.toNat_natCast]
  omega
theorem r_Sum_calls (ao bo : Option Addr) (n c m d : Nat) (l l' : List Nat) (w : World) (hs : Sl .u32 w ao n c l) (hs' : Sl .u32 w bo m d l') (hd : Digs 4294967296 l) (hd' : Digs 4294967296 l')
    (hn : n ≤ 1099511627776) (hm : m ≤ 1099511627776) :
    Calls Tryz.prog 151 #[.slice ao n c, .slice bo m d] w (RetNat .u32 4294967296 w (val 4294967296 l + val 4294967296 l')) := by
  have HS := Lib.hid hs; clear hs
  have HS' := Lib.hid hs'; clear hs'
  have HD := Lib.hid hd; clear hd
  have HD' := Lib.hid hd'; clear hd'
  obtain ⟨i0, hi, hz0, hz1, hz2⟩ := info_parts info_u32
  go_enter Tryz.func151, Tryz.ntmps151
  go_wp2_with (at_make; refine wpList_make_u _ rfl _ _ 51 rfl 150 i0 .u32 Tryz.underlying51 hi hz0 hz1 _ _ _ _ (max n m + 1) (max n m + 1) rfl rfl ?c1 ?c2 (Nat.le_refl _) ?c3 ?c4 ?_)
  case c1.inl | c1.inr | c2.inl | c2.inr => omega
  case c3 => rw [hz2]; omega
  case c4 => omega
  all_goals
    go_loopw [6, 7] (fun cv iv wr => ∃ (k carry : Nat) (ol : List Nat), k ≤ max n m + 1 ∧ iv = .int .i64 k ∧ cv = .int .u64 carry ∧ carry ≤ 1 ∧ Blk .u32 150 wr w.heap.size ol ∧ ol.length = max n m + 1 ∧ Digs 4294967296 ol ∧
        val 4294967296 (ol.take k) + carry * 4294967296 ^ k = val 4294967296 (l.take k) + val 4294967296 (l'.take k) ∧ Below w.heap.size w wr) (fun _ iv _ => max n m + 1 - (intOf iv).toNat)
    case atStart => exact ⟨0, 0, _, by omega, rfl, rfl, by omega, Blk.new .u32 _ w _, by simp, Digs.zeros (by omega) _, by simp [val], (Below.refl _ _).alloc (Nat.le_refl _) _⟩
    case round =>
      obtain ⟨k, carry, ol, hk, rfl, rfl, hc1, hblk, hol, hdo, hval, hbel⟩ := hrel
      have e1 := (HS.out).mono hbel
      have e2 := (HS'.out).mono hbel
      have d1 := HD.out.get (by omega) k
      have d2 := HD'.out.get (by omega) k
      have HB := Lib.hid hblk
      have HO := Lib.hid hol
      have HV := Lib.hid hval
      have HDO := Lib.hid hdo
      have HBE := Lib.hid hbel
      have HE1 := Lib.hid e1
      have HE2 := Lib.hid e2
      have z1 : n ≤ k → l[k]?.getD 0 = 0 := fun h => by rw [List.getElem?_eq_none (by have := HS.out.len; omega)]; rfl
      have z2 : m ≤ k → l'[k]?.getD 0 = 0 := fun h => by rw [List.getElem?_eq_none (by have := HS'.out.len; omega)]; rfl
      have Z1 := Lib.hid z1
      have Z2 := Lib.hid z2
      clear hblk hol hval hdo hbel e1 e2 z1 z2
      by_cases hkL : k < max n m + 1
      · have hcell := HB.out.cell (j := k) (by have := HO.out; omega)
        have hfree := HB.out.free k
        have fin : ∀ (x : Nat), x = carry + l[k]?.getD 0 + l'[k]?.getD 0 → ∃ (k' carry' : Nat) (ol' : List Nat), k' ≤ max n m + 1 ∧ Value.int .i64 ((k : Int) + 1) = .int .i64 k' ∧ Value.int .u64 ((x : Int) / 4294967296) = .int .u64 carry' ∧ carry' ≤ 1 ∧
              Blk .u32 150 (wr.setCell ⟨w.heap.size, k, none⟩ (.int .u32 ((x : Int) % 4294967296))) w.heap.size ol' ∧ ol'.length = max n m + 1 ∧ Digs 4294967296 ol' ∧
              val 4294967296 (ol'.take k') + carry' * 4294967296 ^ k' = val 4294967296 (l.take k') + val 4294967296 (l'.take k') ∧ Below w.heap.size w (wr.setCell ⟨w.heap.size, k, none⟩ (.int .u32 ((x : Int) % 4294967296))) := by
          rintro x rfl
          refine ⟨k + 1, (carry + l[k]?.getD 0 + l'[k]?.getD 0) / 4294967296, ol.set k ((carry + l[k]?.getD 0 + l'[k]?.getD 0) % 4294967296), by omega, by go_num, rfl, by omega, ?_, by rw [List.length_set]; exact HO.out, HDO.out.set _ _ (Nat.mod_lt _ (by omega)), ?_, HBE.out.setCell (Nat.le_refl _) _⟩
          · exact HB.out.set _ _
          · exact sum_step _ _ _ _ _ _ (by rw [HO.out]; exact hkL) HV.out
        have FIN := Lib.hid fin
        clear fin
        by_cases h1 : k < n
        · obtain ⟨b1, o1, rfl, hc1⟩ := HE1.out.at h1
          by_cases h2 : k < m
          · obtain ⟨b2, o2, rfl, hc2⟩ := HE2.out.at h2
            go_wp2
            go_roundw
            case rel => exact FIN.out _ rfl
            all_goals first | (simp [intOf]; done) | (simp [intOf]; omega)
          · have h2' : m ≤ k := by omega
            go_wp2
            all_goals go_roundw
            all_goals try case rel => exact FIN.out (carry + l[k]?.getD 0) (by have := Z2.out h2'; omega)
            all_goals first | (simp [intOf]; done) | (simp [intOf]; omega)
        · have h1' : n ≤ k := by omega
          by_cases h2 : k < m
          · obtain ⟨b2, o2, rfl, hc2⟩ := HE2.out.at h2
            go_wp2
            all_goals go_roundw
            all_goals try case rel => exact FIN.out (carry + l'[k]?.getD 0) (by have := Z1.out h1'; omega)
            all_goals first | (simp [intOf]; done) | (simp [intOf]; omega)
          · have h2' : m ≤ k := by omega
            go_wp2
            go_roundw
            case rel => exact FIN.out carry (by have := Z1.out h1'; have := Z2.out h2'; omega)
            all_goals first | (simp [intOf]; done) | (simp [intOf]; omega)
      · go_wp2_with fail
        obtain rfl : k = max n m + 1 := by omega
        refine (r_cut_calls 4294967296 _ _ _ ol _ (by have := HB.out.sl (by have := HO.out; omega); rw [HO.out] at this; exact this) HDO.out).mono ?_
        rintro e w' ⟨j, hj, hcj, hvj, rfl, rfl⟩
        go_wp2
        go_ret
        refine ⟨_, rfl, ⟨_, _, _, _, rfl, (by have := HB.out.sl (by have := HO.out; omega); rw [HO.out] at this; exact this.take j hj), hcj, ?_⟩, HBE.out, Fresh.at _ _ _ _⟩
        rw [hvj]
        have hv := HV.out
        rw [← HO.out] at hv
        exact sum_end (by omega) HD.out HD'.out (by have := HS.out.len; have := HO.out; omega) (by have := HS'.out.len; have := HO.out; omega) hv
end Go.Proofs.YtbnomdlojmgigaaGreat
namespace Go.Proofs.YtbnomdlojmgigaaGreat
open Go.RowKit Dg
def ordN (x y : Nat) : Int := if x < y then -1 else if y < x then 1 else 0
def Quiet (w : World) (v : Value) (e : Ending) (w' : World) : Prop := ∃ q, e = .returned v ∧ w' = w.drewN q
theorem r_Order_calls (ao bo : Option Addr) (n c m d : Nat) (l l' : List Nat) (w : World) (hs : Sl .u32 w ao n c l) (hs' : Sl .u32 w bo m d l') (hd : Canon 4294967296 l) (hd' : Canon 4294967296 l') :
    Calls Tryz.prog 89 #[.slice ao n c, .slice bo m d] w (Quiet w (.int .i64 (ordN (val 4294967296 l) (val 4294967296 l')))) := by
  have b1 : n ≤ 9223372036854775807 := by have := hs.cap; have := hs.max; omega
  have b2 : m ≤ 9223372036854775807 := by have := hs'.cap; have := hs'.max; omega
  have HS := Lib.hid hs; clear hs
  have HS' := Lib.hid hs'; clear hs'
  have HD := Lib.hid hd; clear hd
  have HD' := Lib.hid hd'; clear hd'
  rcases Nat.lt_trichotomy n m with h | h | h
  · have h' : ¬ (n : Int) = m := by omega
    have hfin : ordN (val 4294967296 l) (val 4294967296 l') = -1 := by
      have := HD.out.lt_of_length (by omega) HD'.out (by rw [HS.out.len, HS'.out.len]; exact h)
      unfold ordN; rw [if_pos this]
    rw [hfin]; clear hfin
    go_enter Tryz.func89, Tryz.ntmps89
    go_wp2
    go_ret
    exact ⟨0, rfl, rfl⟩
  · subst h
    have Hr : ∀ r, r = ordN (val 4294967296 l) (val 4294967296 l') → ordN (val 4294967296 l) (val 4294967296 l') = r := fun r h => h.symm
    generalize hR : ordN (val 4294967296 l) (val 4294967296 l') = R
    have HR := Lib.hid hR; clear hR Hr
    go_enter Tryz.func89, Tryz.ntmps89
    go_wp2
    go_loopw [5] (fun iv wr => ∃ k : Nat, k ≤ n ∧ iv = .int .i64 ((k : Int) - 1) ∧ l.drop k = l'.drop k ∧ ∃ q, wr = w.drewN q) (fun iv _ => (intOf iv + 1).toNat)
    case atStart => exact ⟨n, Nat.le_refl _, rfl, by rw [List.drop_of_length_le (by rw [HS.out.len]; omega), List.drop_of_length_le (by rw [HS'.out.len]; omega)], 0, rfl⟩
    case round =>
      obtain ⟨k, hk, rfl, hdrop, q, rfl⟩ := hrel
      have HDR := Lib.hid hdrop; clear hdrop
      cases k with
      | zero =>
        rw [show ((0 : Nat) : Int) - 1 = -1 from rfl]
        go_wp2
        go_ret
        refine ⟨q, ?_, rfl⟩
        have := HDR.out
        rw [List.drop_zero, List.drop_zero] at this
        rw [← HR.out, this]
        unfold ordN
        rw [if_neg (by omega), if_neg (by omega)]
        rfl
      | succ k =>
        obtain ⟨b1, o1, rfl, hc1⟩ := HS.out.at (i := k) (by omega)
        obtain ⟨b2, o2, rfl, hc2⟩ := HS'.out.at (i := k) (by omega)
        have hc1' : ∀ q, (w.drewN q).cell? ⟨b1, o1 + k, none⟩ = some (.int .u32 ((l[k]?.getD 0 : Nat) : Int)) := fun q => hc1
        have hc2' : ∀ q, (w.drewN q).cell? ⟨b2, o2 + k, none⟩ = some (.int .u32 ((l'[k]?.getD 0 : Nat) : Int)) := fun q => hc2
        rw [show ((k + 1 : Nat) : Int) - 1 = (k : Int) from by omega]
        have d1 := HD.out.1.get (by omega) k
        have d2 := HD'.out.1.get (by omega) k
        have L1 := HS.out.len
        have L2 := HS'.out.len
        have HL1 := Lib.hid L1
        have HL2 := Lib.hid L2
        clear L1 L2
        rcases Nat.lt_trichotomy (l[k]?.getD 0) (l'[k]?.getD 0) with hlt | heq | hgt
        · have hfin : R = -1 := by
            have := lt_of_digit (by omega) HD.out.1 HD'.out.1 (by rw [HL1.out, HL2.out]) k (by rw [HL1.out]; omega) HDR.out hlt
            rw [← HR.out]; unfold ordN; rw [if_pos this]
          subst hfin
          have hlt' : ((l[k]?.getD 0 : Nat) : Int) < ((l'[k]?.getD 0 : Nat) : Int) := by omega
          go_wp2
          go_quiet (fail)
          go_wp2
          go_ret
          exact ⟨q + nq, rfl, World.drewN_drewN ..⟩
        · have he1 : (((l[k]?.getD 0 : Nat) : Int) == ((l'[k]?.getD 0 : Nat) : Int)) = true := by rw [beq_iff_eq]; omega
          have hdr := drop_eq_of (by rw [HL1.out]; omega) (by rw [HL2.out]; omega) heq HDR.out
          have HDR' := Lib.hid hdr
          have HEQ := Lib.hid heq
          clear hdr heq he1
          have hge1 : ((l'[k]?.getD 0 : Nat) : Int) ≤ ((l[k]?.getD 0 : Nat) : Int) := by have := HEQ.out; omega
          have hge2 : ((l[k]?.getD 0 : Nat) : Int) ≤ ((l'[k]?.getD 0 : Nat) : Int) := by have := HEQ.out; omega
          go_wp2
          go_quiet (fail)
          go_wp2
          go_quiet (fail)
          go_wp2
          go_roundw
          case rel => exact ⟨k, by omega, rfl, HDR'.out, _, (by first | rfl | (simp only [World.drewN_drewN]; rfl))⟩
          all_goals first | (simp [intOf]; done) | (simp [intOf]; omega)
        · have hfin : R = 1 := by
            have := lt_of_digit (by omega) HD'.out.1 HD.out.1 (by rw [HL1.out, HL2.out]) k (by rw [HL2.out]; omega) HDR.out.symm hgt
            rw [← HR.out]; unfold ordN; rw [if_neg (by omega), if_pos this]
          subst hfin
          have hge1 : ((l'[k]?.getD 0 : Nat) : Int) ≤ ((l[k]?.getD 0 : Nat) : Int) := by omega
          have hgt' : ((l'[k]?.getD 0 : Nat) : Int) < ((l[k]?.getD 0 : Nat) : Int) := by omega
          go_wp2
          go_quiet (fail)
          go_wp2
          go_quiet (fail)
          go_wp2
          go_ret
          exact ⟨_, rfl, (by first | rfl | (simp only [World.drewN_drewN]; rfl))⟩
  · have h' : ¬ (n : Int) = m := by omega
    have hfin : ordN (val 4294967296 l) (val 4294967296 l') = 1 := by
      have := HD'.out.lt_of_length (by omega) HD.out (by rw [HS.out.len, HS'.out.len]; exact h)
      unfold ordN; rw [if_neg (by omega), if_pos this]
    rw [hfin]; clear hfin
    go_enter Tryz.func89, Tryz.ntmps89
    go_wp2
    go_ret
    exact ⟨0, rfl, rfl⟩
theorem r_Difference_calls (ao bo : Option Addr) (n c m d : Nat) (l l' : List Nat) (w : World) (hs : Sl .u32 w ao n c l) (hs' : Sl .u32 w bo m d l') (hd : Canon 4294967296 l) (hd' : Canon 4294967296 l')
    (hle : val 4294967296 l' ≤ val 4294967296 l) (hn : n ≤ 1099511627776) :
    Calls Tryz.prog 149 #[.slice ao n c, .slice bo m d] w (RetNat .u32 4294967296 w (val 4294967296 l - val 4294967296 l')) := by
  have hmn : m ≤ n := by have := hd'.length_le_of (by omega) hd hle; rw [hs.len, hs'.len] at this; exact this
  have HS := Lib.hid hs; clear hs
  have HS' := Lib.hid hs'; clear hs'
  have HD := Lib.hid hd; clear hd
  have HD' := Lib.hid hd'; clear hd'
  have HLE := Lib.hid hle; clear hle
  obtain ⟨i0, hi, hz0, hz1, hz2⟩ := info_parts info_u32
  go_enter Tryz.func149, Tryz.ntmps149
  go_wp2_with (at_make; refine wpList_make_u _ rfl _ _ 51 rfl 150 i0 .u32 Tryz.underlying51 hi hz0 hz1 _ _ _ _ n n rfl rfl rfl rfl (Nat.le_refl _) ?c3 ?c4 ?_)
  case c3 => rw [hz2]; omega
  case c4 => omega
  go_loopw [6, 7] (fun cv iv wr => ∃ (k borrow : Nat) (ol : List Nat), k ≤ n ∧ iv = .int .i64 k ∧ cv = .int .u64 borrow ∧ borrow ≤ 1 ∧ Blk .u32 150 wr w.heap.size ol ∧ ol.length = n ∧ Digs 4294967296 ol ∧
      val 4294967296 (ol.take k) + val 4294967296 (l'.take k) = val 4294967296 (l.take k) + borrow * 4294967296 ^ k ∧ Below w.heap.size w wr) (fun _ iv _ => n - (intOf iv).toNat)
  case atStart => exact ⟨0, 0, _, by omega, rfl, rfl, by omega, Blk.new .u32 _ w _, by simp, Digs.zeros (by omega) _, by simp [val], (Below.refl _ _).alloc (Nat.le_refl _) _⟩
  case round =>
    obtain ⟨k, borrow, ol, hk, rfl, rfl, hc1, hblk, hol, hdo, hval, hbel⟩ := hrel
    have e1 := (HS.out).mono hbel
    have e2 := (HS'.out).mono hbel
    have d1 := HD.out.1.get (by omega) k
    have d2 := HD'.out.1.get (by omega) k
    have HB := Lib.hid hblk
    have HO := Lib.hid hol
    have HV := Lib.hid hval
    have HDO := Lib.hid hdo
    have HBE := Lib.hid hbel
    have HE1 := Lib.hid e1
    have HE2 := Lib.hid e2
    have z2 : m ≤ k → l'[k]?.getD 0 = 0 := fun h => by rw [List.getElem?_eq_none (by have := HS'.out.len; omega)]; rfl
    have Z2 := Lib.hid z2
    clear hblk hol hval hdo hbel e1 e2 z2
    by_cases hkL : k < n
    · have hcell := HB.out.cell (j := k) (by have := HO.out; omega)
      have hfree := HB.out.free k
      have fin : ∀ (x : Int) (nb : Nat), 0 ≤ x → x < 4294967296 → nb ≤ 1 → x + (borrow + l'[k]?.getD 0) = l[k]?.getD 0 + nb * 4294967296 → ∃ (k' carry' : Nat) (ol' : List Nat), k' ≤ n ∧ Value.int .i64 ((k : Int) + 1) = .int .i64 k' ∧ Value.int .u64 (nb : Int) = .int .u64 carry' ∧ carry' ≤ 1 ∧
            Blk .u32 150 (wr.setCell ⟨w.heap.size, k, none⟩ (.int .u32 x)) w.heap.size ol' ∧ ol'.length = n ∧ Digs 4294967296 ol' ∧
            val 4294967296 (ol'.take k') + val 4294967296 (l'.take k') = val 4294967296 (l.take k') + carry' * 4294967296 ^ k' ∧ Below w.heap.size w (wr.setCell ⟨w.heap.size, k, none⟩ (.int .u32 x)) := by
        intro x nb hx0 hx1 hnb hx
        obtain ⟨y, rfl⟩ := Int.eq_ofNat_of_zero_le hx0
        refine ⟨k + 1, nb, ol.set k y, by omega, by go_num, rfl, by omega, HB.out.set _ _, by rw [List.length_set]; exact HO.out, HDO.out.set _ _ (by omega), ?_, HBE.out.setCell (Nat.le_refl _) _⟩
        exact dif_step _ _ _ _ _ borrow (by rw [HO.out]; exact hkL) HV.out y y nb (by omega) rfl
      have FIN := Lib.hid fin
      clear fin
      obtain ⟨b1, o1, rfl, hc1⟩ := HE1.out.at hkL
      by_cases h2 : k < m
      · obtain ⟨b2, o2, rfl, hc2⟩ := HE2.out.at h2
        by_cases h3 : l[k]?.getD 0 < borrow + l'[k]?.getD 0
        · have h3' : ((l[k]?.getD 0 : Nat) : Int) < (borrow : Int) + ((l'[k]?.getD 0 : Nat) : Int) := by omega
          go_wp2
          go_roundw
          case rel => exact FIN.out _ 1 (by omega) (by omega) (by omega) (by omega)
          all_goals first | (simp [intOf]; done) | (simp [intOf]; omega)
        · have h3' : (borrow : Int) + ((l'[k]?.getD 0 : Nat) : Int) ≤ ((l[k]?.getD 0 : Nat) : Int) := by omega
          go_wp2
          go_roundw
          case rel => exact FIN.out _ 0 (by omega) (by omega) (by omega) (by omega)
          all_goals first | (simp [intOf]; done) | (simp [intOf]; omega)
      · have h2' : m ≤ k := by omega
        by_cases h3 : l[k]?.getD 0 < borrow
        · have h3' : ((l[k]?.getD 0 : Nat) : Int) < (borrow : Int) := by omega
          go_wp2
          go_roundw
          case rel => have := Z2.out h2'; exact FIN.out _ 1 (by omega) (by omega) (by omega) (by omega)
          all_goals first | (simp [intOf]; done) | (simp [intOf]; omega)
        · have h3' : (borrow : Int) ≤ ((l[k]?.getD 0 : Nat) : Int) := by omega
          go_wp2
          go_roundw
          case rel => have := Z2.out h2'; exact FIN.out _ 0 (by omega) (by omega) (by omega) (by omega)
          all_goals first | (simp [intOf]; done) | (simp [intOf]; omega)
    · go_wp2_with fail
      obtain rfl : k = n := by omega
      refine (r_cut_calls 4294967296 _ _ _ ol _ (by have := HB.out.sl (by have := HO.out; omega); rw [HO.out] at this; exact this) HDO.out).mono ?_
      rintro e w' ⟨j, hj, hcj, hvj, rfl, rfl⟩
      go_wp2
      go_ret
      refine ⟨_, rfl, ⟨_, _, _, _, rfl, (by have := HB.out.sl (by have := HO.out; omega); rw [HO.out] at this; exact this.take j hj), hcj, ?_⟩, HBE.out, Fresh.at _ _ _ _⟩
      rw [hvj]
      have hv := HV.out
      rw [← HO.out] at hv
      exact dif_end (by omega) HDO.out (by rw [HO.out, HS.out.len]) (by rw [HS.out.len, HS'.out.len]; exact hmn) HLE.out hv
def RetNatD (k : IntKind) (B : Nat) (w : World) (x r : Nat) (e : Ending) (w' : World) : Prop := ∃ v, e = .returned (.tuple #[v, .int k (r : Int)]) ∧ NatV k B w' v x ∧ Below w.heap.size w w'
theorem r_byDigit_calls (ao : Option Addr) (n c : Nat) (l : List Nat) (d : Int) (w : World) (hs : Sl .u32 w ao n c l) (hd : Digs 4294967296 l) (h0 : 0 < d) (h1 : d < 4294967296) (hn : n ≤ 1099511627776) :
    Calls Tryz.prog 121 #[.slice ao n c, .int .u32 d] w (RetNatD .u32 4294967296 w (val 4294967296 l / d.toNat) (val 4294967296 l % d.toNat)) := by
  obtain ⟨d, rfl⟩ := Int.eq_ofNat_of_zero_le (show 0 ≤ d by omega)
  rw [Int.toNat_natCast]
  have HS := Lib.hid hs; clear hs
  have HD := Lib.hid hd; clear hd
  obtain ⟨i0, hi, hz0, hz1, hz2⟩ := info_parts info_u32
  go_enter Tryz.func121, Tryz.ntmps121
  go_wp2_with (at_make; refine wpList_make_u _ rfl _ _ 51 rfl 150 i0 .u32 Tryz.underlying51 hi hz0 hz1 _ _ _ _ n n rfl rfl rfl rfl (Nat.le_refl _) ?c3 ?c4 ?_)
  case c3 => rw [hz2]; omega
  case c4 => omega
  go_loopw [7, 8] (fun rv iv wr => ∃ (k rest : Nat) (ol : List Nat), k ≤ n ∧ iv = .int .i64 ((k : Int) - 1) ∧ rv = .int .u64 rest ∧ rest < d ∧ Blk .u32 150 wr w.heap.size ol ∧ ol.length = n ∧ Digs 4294967296 ol ∧
      val 4294967296 (l.drop k) = val 4294967296 (ol.drop k) * d + rest ∧ Below w.heap.size w wr) (fun _ iv _ => (intOf iv + 1).toNat)
  case atStart => exact ⟨n, 0, _, Nat.le_refl _, rfl, rfl, by omega, Blk.new .u32 _ w _, by simp, Digs.zeros (by omega) _, by rw [List.drop_of_length_le (by rw [HS.out.len]; omega), List.drop_of_length_le (by simp)]; simp [val], (Below.refl _ _).alloc (Nat.le_refl _) _⟩
  case round =>
    obtain ⟨k, rest, ol, hk, rfl, rfl, hrd, hblk, hol, hdo, hval, hbel⟩ := hrel
    have e1 := (HS.out).mono hbel
    have HB := Lib.hid hblk
    have HO := Lib.hid hol
    have HV := Lib.hid hval
    have HDO := Lib.hid hdo
    have HBE := Lib.hid hbel
    have HE1 := Lib.hid e1
    clear hblk hol hval hdo hbel e1
    cases k with
    | zero =>
      rw [show ((0 : Nat) : Int) - 1 = -1 from rfl]
      go_wp2_with fail
      refine (r_cut_calls 4294967296 _ _ _ ol _ (by have := HB.out.sl (by have := HO.out; omega); rw [HO.out] at this; exact this) HDO.out).mono ?_
      rintro e w' ⟨j, hj, hcj, hvj, rfl, rfl⟩
      go_wp2
      go_ret2
      have hv := HV.out
      rw [List.drop_zero, List.drop_zero] at hv
      have := quo_end hv.symm hrd
      refine ⟨_, by rw [← this.2]; rfl, ⟨_, _, _, _, rfl, (by have := HB.out.sl (by have := HO.out; omega); rw [HO.out] at this; exact this.take j hj), hcj, ?_⟩, HBE.out⟩
      rw [hvj, ← this.1]
    | succ k =>
      rw [show ((k + 1 : Nat) : Int) - 1 = (k : Int) from by omega]
      have hcell := HB.out.cell (j := k) (by have := HO.out; omega)
      have hfree := HB.out.free k
      have d1 := HD.out.get (by omega) k
      obtain ⟨b1, o1, rfl, hc1⟩ := HE1.out.at (i := k) (by omega)
      have x1 := div_digit hrd d1
      have x2 := div_rest_lt hrd d1 (by omega)
      have x3 := Nat.mod_lt (rest * 4294967296 + l[k]?.getD 0) (show 0 < d by omega)
      have y1 : ((rest : Int) * 4294967296 + ((l[k]?.getD 0 : Nat) : Int)) / (d : Int) < 4294967296 := by
        have : (((rest * 4294967296 + l[k]?.getD 0) / d : Nat) : Int) < 4294967296 := Int.ofNat_lt.2 x1
        simpa using this
      have y0 : 0 ≤ ((rest : Int) * 4294967296 + ((l[k]?.getD 0 : Nat) : Int)) / (d : Int) := by
        have : 0 ≤ (((rest * 4294967296 + l[k]?.getD 0) / d : Nat) : Int) := Int.natCast_nonneg _
        simpa using this
      go_wp2
      go_roundw
      case rel =>
        refine ⟨k, (rest * 4294967296 + l[k]?.getD 0) % d, ol.set k ((rest * 4294967296 + l[k]?.getD 0) / d), by omega, rfl, by simp, x3, ?_, by rw [List.length_set]; exact HO.out, HDO.out.set _ _ x1, ?_, HBE.out.setCell (Nat.le_refl _) _⟩
        · have := HB.out.set k ((rest * 4294967296 + l[k]?.getD 0) / d)
          simpa using this
        · exact div_step _ _ _ _ _ _ (by rw [HS.out.len]; omega) (by rw [HO.out]; omega) HV.out
      all_goals first | (simp [intOf]; done) | (simp [intOf]; omega)
end Go.Proofs.YtbnomdlojmgigaaGreat
namespace Go.Proofs.YtbnomdlojmgigaaGreat
open Go.RowKit Dg
theorem info_u64 : (Tryz.prog.info? 108).map (fun i => (i.zero, i.size, i.bytes)) = some (some (.int .u64 0), 1, 8) := by kernel_rfl
def bitsRen : Go.Shelf.Ren := ⟨fun | 25 => 82 | 26 => 84 | n => n, fun | 22 => 108 | n => n, fun | n => n⟩
theorem lays25 : Lays7.n25 Tryz.prog bitsRen := { mixed := by kernel_rfl, f25 := Tryz.func82.trans (congrArg some (by kernel_rfl)), t22 := Tryz.underlying108, a22 := Tryz.isAgg108, z22 := Tryz.sizeOf108, v22 := Tryz.zeroValue108, i22 := by kernel_rfl }
theorem lays26 : Lays7.n26 Tryz.prog bitsRen := { mixed := by kernel_rfl, f26 := Tryz.func84.trans (congrArg some (by kernel_rfl)), t22 := Tryz.underlying108, a22 := Tryz.isAgg108, z22 := Tryz.sizeOf108, v22 := Tryz.zeroValue108, i22 := by kernel_rfl }
theorem add64 (x y c : Int) (hx : 0 ≤ x) (hy : 0 ≤ y) (hc0 : 0 ≤ c) (hc : c ≤ 1) (w : World) : (callFunc 82 #[.int .u64 x, .int .u64 y, .int .u64 c]).run Tryz.prog w =
    .ok (.value (.tuple #[.int .u64 ((x + y + c) % 18446744073709551616), .int .u64 ((x + y + c) / 18446744073709551616)])) w := by
  obtain ⟨x, rfl⟩ := Int.eq_ofNat_of_zero_le hx
  obtain ⟨y, rfl⟩ := Int.eq_ofNat_of_zero_le hy
  obtain ⟨c, rfl⟩ := Int.eq_ofNat_of_zero_le hc0
  refine (Any7.bits_Add64 lays25 x y c (by omega) w).trans ?_
  congr 5 <;> omega
def bor (x y b : Int) : Int := if x < y + b then 1 else 0
theorem sub64 (x y b : Int) (hx : 0 ≤ x) (hy : 0 ≤ y) (hy' : y < 18446744073709551616) (hb0 : 0 ≤ b) (hb : b ≤ 1) (w : World) : (callFunc 84 #[.int .u64 x, .int .u64 y, .int .u64 b]).run Tryz.prog w =
    .ok (.value (.tuple #[.int .u64 ((x - y - b) % 18446744073709551616), .int .u64 (bor x y b)])) w := by
  obtain ⟨x, rfl⟩ := Int.eq_ofNat_of_zero_le hx
  obtain ⟨y, rfl⟩ := Int.eq_ofNat_of_zero_le hy
  obtain ⟨b, rfl⟩ := Int.eq_ofNat_of_zero_le hb0
  have e1 : (((x + 18446744073709551616 - y - b) % 18446744073709551616 : Nat) : Int) = ((x : Int) - y - b) % 18446744073709551616 := by omega
  have e2 : ((if x < y + b then 1 else 0 : Nat) : Int) = bor x y b := by unfold bor; split <;> split <;> omega
  rw [← e1, ← e2]
  exact Any7.bits_Sub64 lays26 x y b (by omega) w
theorem add64_0 (x y : Int) (hx : 0 ≤ x) (hy : 0 ≤ y) (w : World) : (callFunc 82 #[.int .u64 x, .int .u64 y, .int .u64 0]).run Tryz.prog w =
    .ok (.value (.tuple #[.int .u64 ((x + y) % 18446744073709551616), .int .u64 ((x + y) / 18446744073709551616)])) w := by
  simpa using add64 x y 0 hx hy (Int.le_refl 0) (by decide) w
def CutL (ao : Option Addr) (n c : Nat) (l : List Nat) (w : World) (e : Ending) (w' : World) : Prop :=
  ∃ m, m ≤ n ∧ Canon 18446744073709551616 (l.take m) ∧ val 18446744073709551616 (l.take m) = val 18446744073709551616 l ∧ e = .returned (.slice ao m c) ∧ w = w'
theorem l_cut_calls (ao : Option Addr) (n c : Nat) (l : List Nat) (w : World) (hs : Sl .u64 w ao n c l) (hd : Digs 18446744073709551616 l) :
    Calls Tryz.prog 83 #[.slice ao n c] w (CutL ao n c l w) := by
  have hn := hs.cap
  have hcM := hs.max
  have HS := Lib.hid hs; clear hs
  have HD := Lib.hid hd; clear hd
  go_enter Tryz.func83, Tryz.ntmps83
  go_wp2
  go_loopg [0] n (fun g s wr => ∃ k : Nat, k ≤ g ∧ k ≤ n ∧ (∀ i, k ≤ i → l[i]?.getD 0 = 0) ∧ s = .slice ao k c ∧ wr = w)
  case atStart => exact ⟨n, Nat.le_refl _, by omega, by intro i hi; rw [List.getElem?_eq_none (by have := HS.out.len; omega)]; rfl, rfl, rfl⟩
  case round =>
    obtain ⟨k, hkg, hk, hz, rfl, rfl⟩ := hrel
    have HZ := Lib.hid hz; clear hz
    by_cases h0 : k = 0
    · subst h0
      go_wp2
      go_ret
      exact ⟨0, by omega, canon_cut HD.out 0 (by omega) (by omega), val_cut _ _ _ HZ.out (by omega), rfl, rfl⟩
    · obtain ⟨j, rfl⟩ : ∃ j, k = j + 1 := ⟨k-1, by omega⟩
      obtain ⟨b, o, rfl, hcell⟩ := HS.out.at (i := j) (by omega)
      by_cases hd : l[j]?.getD 0 = 0
      · rw [hd] at hcell
        go_wp2
        go_roundg (gk - 1)
        case measure => omega
        case rel => exact ⟨j, by omega, by omega, by intro i hi; by_cases e : i = j; (· rw [e]; exact hd); (· exact HZ.out i (by omega)), by simp, rfl⟩
      · have hd' : ((l[j]?.getD 0 : Nat) : Int) ≠ 0 := by omega
        go_wp2
        go_ret
        exact ⟨j+1, by omega, canon_cut HD.out _ (by have := HS.out.len; omega) (by intro; simpa using hd), val_cut _ _ _ HZ.out (by have := HS.out.len; omega), by simp, rfl⟩
def RetL (w : World) (x : Nat) (e : Ending) (w' : World) : Prop := ∃ v, e = .returned v ∧ NatV .u64 18446744073709551616 w' v x ∧ Below w.heap.size w w'
theorem l_word_calls (n : Nat) (w : World) (h1 : n < 18446744073709551616) : Calls Tryz.prog 80 #[.int .u64 (n : Int)] w (RetL w n) := by
  go_enter Tryz.func80, Tryz.ntmps80
  go_wp2_with fail
  have hb : Blk .u64 108 (w.alloc (Obj.cells #[Value.int IntKind.u64 ↑n] 108)) w.heap.size [n] := Blk.new .u64 108 w [n]
  refine (l_cut_calls _ 1 1 [n] _ (hb.sl (by simp)) ?_).mono ?_
  · intro d hd; simp only [List.mem_cons, List.mem_nil_iff, or_false] at hd; omega
  rintro e w' ⟨m, hm, hc, hv, rfl, rfl⟩
  go_wp2
  go_ret
  refine ⟨_, rfl, ⟨_, _, _, _, rfl, (hb.sl (by simp)).take m hm, hc, ?_⟩, (Below.refl _ _).alloc (Nat.le_refl _) _⟩
  rw [hv, val_one]
theorem l_isOne_calls (v : Value) (x : Nat) (w : World) (h : NatV .u64 18446744073709551616 w v x) : Calls Tryz.prog 78 #[v] w fun e w' => e = .returned (.bool (decide (x = 1))) ∧ w = w' := by
  obtain ⟨ao, n, c, l, rfl, hs, hc, rfl⟩ := h
  have hb : n ≤ 9223372036854775807 := by have := hs.cap; have := hs.max; omega
  by_cases h1 : n = 1
  · subst h1
    obtain ⟨d, rfl⟩ := List.length_eq_one_iff.1 hs.len
    rw [val_one]
    obtain ⟨b, o, rfl, hcell⟩ := hs.at (i := 0) (by omega)
    simp only [Nat.add_zero, List.getElem?_cons_zero, Option.getD_some] at hcell
    clear hs hc
    by_cases hd : d = 1
    · subst hd
      go_enter Tryz.func78, Tryz.ntmps78
      go_wp2
      go_ret
      exact ⟨rfl, rfl⟩
    · have hd' : ((d : Int) == 1) = false := by rw [beq_eq_false_iff_ne]; omega
      rw [decide_eq_false hd]
      go_enter Tryz.func78, Tryz.ntmps78
      go_wp2
      go_ret
      exact ⟨rfl, rfl⟩
  · have h1' : ((n : Int) == 1) = false := by rw [beq_eq_false_iff_ne]; omega
    have hne : val 18446744073709551616 l ≠ 1 := by
      intro e
      have := hc.inj (by omega) (m := [1]) ⟨by intro d hd; simp at hd; omega, by simp⟩ (by rw [e]; rfl)
      have h2 := hs.len
      rw [this] at h2
      simp at h2
      omega
    rw [decide_eq_false hne]
    clear hs hc hne h1
    go_enter Tryz.func78, Tryz.ntmps78
    go_wp2
    go_ret
    exact ⟨rfl, rfl⟩
theorem l_cmp_calls (ao bo : Option Addr) (n c m d : Nat) (l l' : List Nat) (w : World) (hs : Sl .u64 w ao n c l) (hs' : Sl .u64 w bo m d l') (hd : Canon 18446744073709551616 l) (hd' : Canon 18446744073709551616 l') :
    Calls Tryz.prog 45 #[.slice ao n c, .slice bo m d] w (Quiet w (.int .i64 (ordN (val 18446744073709551616 l) (val 18446744073709551616 l')))) := by
  have b1 : n ≤ 9223372036854775807 := by have := hs.cap; have := hs.max; omega
  have b2 : m ≤ 9223372036854775807 := by have := hs'.cap; have := hs'.max; omega
  have HS := Lib.hid hs; clear hs
  have HS' := Lib.hid hs'; clear hs'
  have HD := Lib.hid hd; clear hd
  have HD' := Lib.hid hd'; clear hd'
  rcases Nat.lt_trichotomy n m with h | h | h
  · have h' : ¬ (n : Int) = m := by omega
    have hfin : ordN (val 18446744073709551616 l) (val 18446744073709551616 l') = -1 := by
      have := HD.out.lt_of_length (by omega) HD'.out (by rw [HS.out.len, HS'.out.len]; exact h)
      unfold ordN; rw [if_pos this]
    rw [hfin]; clear hfin
    go_enter Tryz.func45, Tryz.ntmps45
    go_wp2
    go_ret
    exact ⟨0, rfl, rfl⟩
  · subst h
    have Hr : ∀ r, r = ordN (val 18446744073709551616 l) (val 18446744073709551616 l') → ordN (val 18446744073709551616 l) (val 18446744073709551616 l') = r := fun r h => h.symm
    generalize hR : ordN (val 18446744073709551616 l) (val 18446744073709551616 l') = R
    have HR := Lib.hid hR; clear hR Hr
    go_enter Tryz.func45, Tryz.ntmps45
    go_wp2
    go_loopw [5] (fun iv wr => ∃ k : Nat, k ≤ n ∧ iv = .int .i64 ((k : Int) - 1) ∧ l.drop k = l'.drop k ∧ ∃ q, wr = w.drewN q) (fun iv _ => (intOf iv + 1).toNat)
    case atStart => exact ⟨n, Nat.le_refl _, rfl, by rw [List.drop_of_length_le (by rw [HS.out.len]; omega), List.drop_of_length_le (by rw [HS'.out.len]; omega)], 0, rfl⟩
    case round =>
      obtain ⟨k, hk, rfl, hdrop, q, rfl⟩ := hrel
      have HDR := Lib.hid hdrop; clear hdrop
      cases k with
      | zero =>
        rw [show ((0 : Nat) : Int) - 1 = -1 from rfl]
        go_wp2
        go_ret
        refine ⟨q, ?_, rfl⟩
        have := HDR.out
        rw [List.drop_zero, List.drop_zero] at this
        rw [← HR.out, this]
        unfold ordN
        rw [if_neg (by omega), if_neg (by omega)]
        rfl
      | succ k =>
        obtain ⟨b1, o1, rfl, hc1⟩ := HS.out.at (i := k) (by omega)
        obtain ⟨b2, o2, rfl, hc2⟩ := HS'.out.at (i := k) (by omega)
        have hc1' : ∀ q, (w.drewN q).cell? ⟨b1, o1 + k, none⟩ = some (.int .u64 ((l[k]?.getD 0 : Nat) : Int)) := fun q => hc1
        have hc2' : ∀ q, (w.drewN q).cell? ⟨b2, o2 + k, none⟩ = some (.int .u64 ((l'[k]?.getD 0 : Nat) : Int)) := fun q => hc2
        rw [show ((k + 1 : Nat) : Int) - 1 = (k : Int) from by omega]
        have d1 := HD.out.1.get (by omega) k
        have d2 := HD'.out.1.get (by omega) k
        have L1 := HS.out.len
        have L2 := HS'.out.len
        have HL1 := Lib.hid L1
        have HL2 := Lib.hid L2
        clear L1 L2
        rcases Nat.lt_trichotomy (l[k]?.getD 0) (l'[k]?.getD 0) with hlt | heq | hgt
        · have hfin : R = -1 := by
            have := lt_of_digit (by omega) HD.out.1 HD'.out.1 (by rw [HL1.out, HL2.out]) k (by rw [HL1.out]; omega) HDR.out hlt
            rw [← HR.out]; unfold ordN; rw [if_pos this]
          subst hfin
          have hlt' : ((l[k]?.getD 0 : Nat) : Int) < ((l'[k]?.getD 0 : Nat) : Int) := by omega
          go_wp2
          go_quiet (fail)
          go_wp2
          go_ret
          exact ⟨q + nq, rfl, World.drewN_drewN ..⟩
        · have he1 : (((l[k]?.getD 0 : Nat) : Int) == ((l'[k]?.getD 0 : Nat) : Int)) = true := by rw [beq_iff_eq]; omega
          have hdr := drop_eq_of (by rw [HL1.out]; omega) (by rw [HL2.out]; omega) heq HDR.out
          have HDR' := Lib.hid hdr
          have HEQ := Lib.hid heq
          clear hdr heq he1
          have hge1 : ((l'[k]?.getD 0 : Nat) : Int) ≤ ((l[k]?.getD 0 : Nat) : Int) := by have := HEQ.out; omega
          have hge2 : ((l[k]?.getD 0 : Nat) : Int) ≤ ((l'[k]?.getD 0 : Nat) : Int) := by have := HEQ.out; omega
          go_wp2
          go_quiet (fail)
          go_wp2
          go_quiet (fail)
          go_wp2
          go_roundw
          case rel => exact ⟨k, by omega, rfl, HDR'.out, _, (by first | rfl | (simp only [World.drewN_drewN]; rfl))⟩
          all_goals first | (simp [intOf]; done) | (simp [intOf]; omega)
        · have hfin : R = 1 := by
            have := lt_of_digit (by omega) HD'.out.1 HD.out.1 (by rw [HL1.out, HL2.out]) k (by rw [HL2.out]; omega) HDR.out.symm hgt
            rw [← HR.out]; unfold ordN; rw [if_neg (by omega), if_pos this]
          subst hfin
          have hge1 : ((l'[k]?.getD 0 : Nat) : Int) ≤ ((l[k]?.getD 0 : Nat) : Int) := by omega
          have hgt' : ((l'[k]?.getD 0 : Nat) : Int) < ((l[k]?.getD 0 : Nat) : Int) := by omega
          go_wp2
          go_quiet (fail)
          go_wp2
          go_quiet (fail)
          go_wp2
          go_ret
          exact ⟨_, rfl, (by first | rfl | (simp only [World.drewN_drewN]; rfl))⟩
  · have h' : ¬ (n : Int) = m := by omega
    have hfin : ordN (val 18446744073709551616 l) (val 18446744073709551616 l') = 1 := by
      have := HD'.out.lt_of_length (by omega) HD.out (by rw [HS.out.len, HS'.out.len]; exact h)
      unfold ordN; rw [if_neg (by omega), if_pos this]
    rw [hfin]; clear hfin
    go_enter Tryz.func45, Tryz.ntmps45
    go_wp2
    go_ret
    exact ⟨0, rfl, rfl⟩
end Go.Proofs.YtbnomdlojmgigaaGreat
