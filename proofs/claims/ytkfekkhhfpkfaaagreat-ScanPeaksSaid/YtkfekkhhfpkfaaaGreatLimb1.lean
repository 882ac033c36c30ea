/-
  The contracts of the program's naturals (words of 64 bits), first part: cut, word, isOne, cmp, plus, minus.
-/
import Derived.Test.YtkfekkhhfpkfaaaGreatRefNat2
import Derived.Deep.LoopGhost
import Derived.Shelf.Spec.BitsCarry
set_option linter.unusedSimpArgs false
set_option linter.unusedVariables false
namespace Go.Proofs.YtkfekkhhfpkfaaaGreat
open Go.RowKit Dg

theorem info_u64 : (Tryz.prog.info? 108).map (fun i => (i.zero, i.size, i.bytes)) = some (some (.int .u64 0), 1, 8) := by kernel_rfl

def bitsRen : Go.Shelf.Ren := ⟨fun | 25 => 133 | 26 => 162 | n => n, fun | 22 => 108 | n => n, fun | n => n⟩
theorem lays25 : Lays7.n25 Tryz.prog bitsRen := { mixed := by kernel_rfl, f25 := Tryz.func133.trans (congrArg some (by kernel_rfl)), t22 := Tryz.underlying108, a22 := Tryz.isAgg108, z22 := Tryz.sizeOf108, v22 := Tryz.zeroValue108, i22 := by kernel_rfl }
theorem lays26 : Lays7.n26 Tryz.prog bitsRen := { mixed := by kernel_rfl, f26 := Tryz.func162.trans (congrArg some (by kernel_rfl)), t22 := Tryz.underlying108, a22 := Tryz.isAgg108, z22 := Tryz.sizeOf108, v22 := Tryz.zeroValue108, i22 := by kernel_rfl }

theorem add64 (x y c : Int) (hx : 0 ≤ x) (hy : 0 ≤ y) (hc0 : 0 ≤ c) (hc : c ≤ 1) (w : World) : (callFunc 133 #[.int .u64 x, .int .u64 y, .int .u64 c]).run Tryz.prog w =
    .ok (.value (.tuple #[.int .u64 ((x + y + c) % 18446744073709551616), .int .u64 ((x + y + c) / 18446744073709551616)])) w := by
  obtain ⟨x, rfl⟩ := Int.eq_ofNat_of_zero_le hx
  obtain ⟨y, rfl⟩ := Int.eq_ofNat_of_zero_le hy
  obtain ⟨c, rfl⟩ := Int.eq_ofNat_of_zero_le hc0
  refine (Any7.bits_Add64 lays25 x y c (by omega) w).trans ?_
  congr 5 <;> omega
/-- The borrow. -/
def bor (x y b : Int) : Int := if x < y + b then 1 else 0
theorem sub64 (x y b : Int) (hx : 0 ≤ x) (hy : 0 ≤ y) (hy' : y < 18446744073709551616) (hb0 : 0 ≤ b) (hb : b ≤ 1) (w : World) : (callFunc 162 #[.int .u64 x, .int .u64 y, .int .u64 b]).run Tryz.prog w =
    .ok (.value (.tuple #[.int .u64 ((x - y - b) % 18446744073709551616), .int .u64 (bor x y b)])) w := by
  obtain ⟨x, rfl⟩ := Int.eq_ofNat_of_zero_le hx
  obtain ⟨y, rfl⟩ := Int.eq_ofNat_of_zero_le hy
  obtain ⟨b, rfl⟩ := Int.eq_ofNat_of_zero_le hb0
  have e1 : (((x + 18446744073709551616 - y - b) % 18446744073709551616 : Nat) : Int) = ((x : Int) - y - b) % 18446744073709551616 := by omega
  have e2 : ((if x < y + b then 1 else 0 : Nat) : Int) = bor x y b := by unfold bor; split <;> split <;> omega
  rw [← e1, ← e2]
  exact Any7.bits_Sub64 lays26 x y b (by omega) w
theorem add64_0 (x y : Int) (hx : 0 ≤ x) (hy : 0 ≤ y) (w : World) : (callFunc 133 #[.int .u64 x, .int .u64 y, .int .u64 0]).run Tryz.prog w =
    .ok (.value (.tuple #[.int .u64 ((x + y) % 18446744073709551616), .int .u64 ((x + y) / 18446744073709551616)])) w := by
  simpa using add64 x y 0 hx hy (Int.le_refl 0) (by decide) w

/-- What the program's 'cut' leaves. -/
def CutL (ao : Option Addr) (n c : Nat) (l : List Nat) (w : World) (e : Ending) (w' : World) : Prop :=
  ∃ m, m ≤ n ∧ Canon 18446744073709551616 (l.take m) ∧ val 18446744073709551616 (l.take m) = val 18446744073709551616 l ∧ e = .returned (.slice ao m c) ∧ w = w'

set_option maxRecDepth 100000 in
set_option maxHeartbeats 400000 in
theorem l_cut_calls (ao : Option Addr) (n c : Nat) (l : List Nat) (w : World) (hs : Sl .u64 w ao n c l) (hd : Digs 18446744073709551616 l) :
    Calls Tryz.prog 130 #[.slice ao n c] w (CutL ao n c l w) := by
  have hn := hs.cap
  have hcM := hs.max
  have HS := Lib.hid hs; clear hs
  have HD := Lib.hid hd; clear hd
  go_enter Tryz.func130, Tryz.ntmps130
  go_wp2
  go_loopg [0] n (fun g s wr => ∃ k : Nat, k ≤ g ∧ k ≤ n ∧ (∀ i, k ≤ i → l[i]?.getD 0 = 0) ∧ s = .slice ao k c ∧ wr = w)
  case atStart => exact ⟨n, Nat.le_refl _, by omega, by intro i hi; rw [List.getElem?_eq_none (by have := HS.out.len; omega)]; rfl, rfl, rfl⟩
  case round =>
    obtain ⟨k, hkg, hk, hz, rfl, rfl⟩ := hrel
    have HZ := Lib.hid hz; clear hz
    by_cases h0 : k = 0
    · subst h0
      go_wp2
      go_ret
      exact ⟨0, by omega, canon_cut HD.out 0 (by omega) (by omega), val_cut _ _ _ HZ.out (by omega), rfl, rfl⟩
    · obtain ⟨j, rfl⟩ : ∃ j, k = j + 1 := ⟨k-1, by omega⟩
      obtain ⟨b, o, rfl, hcell⟩ := HS.out.at (i := j) (by omega)
      by_cases hd : l[j]?.getD 0 = 0
      · rw [hd] at hcell
        go_wp2
        go_roundg (gk - 1)
        case measure => omega
        case rel => exact ⟨j, by omega, by omega, by intro i hi; by_cases e : i = j; (· rw [e]; exact hd); (· exact HZ.out i (by omega)), by simp, rfl⟩
      · have hd' : ((l[j]?.getD 0 : Nat) : Int) ≠ 0 := by omega
        go_wp2
        go_ret
        exact ⟨j+1, by omega, canon_cut HD.out _ (by have := HS.out.len; omega) (by intro; simpa using hd), val_cut _ _ _ HZ.out (by have := HS.out.len; omega), by simp, rfl⟩

/-- A number is handed back: NatV with words of 64 bits. -/
def RetL (w : World) (x : Nat) (e : Ending) (w' : World) : Prop := ∃ v, e = .returned v ∧ NatV .u64 18446744073709551616 w' v x ∧ Below w.heap.size w w'

set_option maxRecDepth 100000 in
set_option maxHeartbeats 400000 in
theorem l_word_calls (n : Nat) (w : World) (h1 : n < 18446744073709551616) : Calls Tryz.prog 77 #[.int .u64 (n : Int)] w (RetL w n) := by
  go_enter Tryz.func77, Tryz.ntmps77
  go_wp2_with fail
  have hb : Blk .u64 108 (w.alloc (Obj.cells #[Value.int IntKind.u64 ↑n] 108)) w.heap.size [n] := Blk.new .u64 108 w [n]
  refine (l_cut_calls _ 1 1 [n] _ (hb.sl (by simp)) ?_).mono ?_
  · intro d hd; simp only [List.mem_cons, List.mem_nil_iff, or_false] at hd; omega
  rintro e w' ⟨m, hm, hc, hv, rfl, rfl⟩
  go_wp2
  go_ret
  refine ⟨_, rfl, ⟨_, _, _, _, rfl, (hb.sl (by simp)).take m hm, hc, ?_⟩, (Below.refl _ _).alloc (Nat.le_refl _) _⟩
  rw [hv, val_one]

set_option maxRecDepth 100000 in
set_option maxHeartbeats 400000 in
theorem l_isOne_calls (v : Value) (x : Nat) (w : World) (h : NatV .u64 18446744073709551616 w v x) : Calls Tryz.prog 128 #[v] w fun e w' => e = .returned (.bool (decide (x = 1))) ∧ w = w' := by
  obtain ⟨ao, n, c, l, rfl, hs, hc, rfl⟩ := h
  have hb : n ≤ 9223372036854775807 := by have := hs.cap; have := hs.max; omega
  by_cases h1 : n = 1
  · subst h1
    obtain ⟨d, rfl⟩ := List.length_eq_one_iff.1 hs.len
    rw [val_one]
    obtain ⟨b, o, rfl, hcell⟩ := hs.at (i := 0) (by omega)
    simp only [Nat.add_zero, List.getElem?_cons_zero, Option.getD_some] at hcell
    clear hs hc
    by_cases hd : d = 1
    · subst hd
      go_enter Tryz.func128, Tryz.ntmps128
      go_wp2
      go_ret
      exact ⟨rfl, rfl⟩
    · have hd' : ((d : Int) == 1) = false := by rw [beq_eq_false_iff_ne]; omega
      rw [decide_eq_false hd]
      go_enter Tryz.func128, Tryz.ntmps128
      go_wp2
      go_ret
      exact ⟨rfl, rfl⟩
  · have h1' : ((n : Int) == 1) = false := by rw [beq_eq_false_iff_ne]; omega
    have hne : val 18446744073709551616 l ≠ 1 := by
      intro e
      have := hc.inj (by omega) (m := [1]) ⟨by intro d hd; simp at hd; omega, by simp⟩ (by rw [e]; rfl)
      have h2 := hs.len
      rw [this] at h2
      simp at h2
      omega
    rw [decide_eq_false hne]
    clear hs hc hne h1
    go_enter Tryz.func128, Tryz.ntmps128
    go_wp2
    go_ret
    exact ⟨rfl, rfl⟩

set_option maxRecDepth 100000 in
set_option maxHeartbeats 1000000 in
theorem l_cmp_calls (ao bo : Option Addr) (n c m d : Nat) (l l' : List Nat) (w : World) (hs : Sl .u64 w ao n c l) (hs' : Sl .u64 w bo m d l') (hd : Canon 18446744073709551616 l) (hd' : Canon 18446744073709551616 l') :
    Calls Tryz.prog 82 #[.slice ao n c, .slice bo m d] w (Quiet w (.int .i64 (ordN (val 18446744073709551616 l) (val 18446744073709551616 l')))) := by
  have b1 : n ≤ 9223372036854775807 := by have := hs.cap; have := hs.max; omega
  have b2 : m ≤ 9223372036854775807 := by have := hs'.cap; have := hs'.max; omega
  have HS := Lib.hid hs; clear hs
  have HS' := Lib.hid hs'; clear hs'
  have HD := Lib.hid hd; clear hd
  have HD' := Lib.hid hd'; clear hd'
  rcases Nat.lt_trichotomy n m with h | h | h
  · have h' : ¬ (n : Int) = m := by omega
    have hfin : ordN (val 18446744073709551616 l) (val 18446744073709551616 l') = -1 := by
      have := HD.out.lt_of_length (by omega) HD'.out (by rw [HS.out.len, HS'.out.len]; exact h)
      unfold ordN; rw [if_pos this]
    rw [hfin]; clear hfin
    go_enter Tryz.func82, Tryz.ntmps82
    go_wp2
    go_ret
    exact ⟨0, rfl, rfl⟩
  · subst h
    have Hr : ∀ r, r = ordN (val 18446744073709551616 l) (val 18446744073709551616 l') → ordN (val 18446744073709551616 l) (val 18446744073709551616 l') = r := fun r h => h.symm
    generalize hR : ordN (val 18446744073709551616 l) (val 18446744073709551616 l') = R
    have HR := Lib.hid hR; clear hR Hr
    go_enter Tryz.func82, Tryz.ntmps82
    go_wp2
    go_loopw [5] (fun iv wr => ∃ k : Nat, k ≤ n ∧ iv = .int .i64 ((k : Int) - 1) ∧ l.drop k = l'.drop k ∧ ∃ q, wr = w.drewN q) (fun iv _ => (intOf iv + 1).toNat)
    case atStart => exact ⟨n, Nat.le_refl _, rfl, by rw [List.drop_of_length_le (by rw [HS.out.len]; omega), List.drop_of_length_le (by rw [HS'.out.len]; omega)], 0, rfl⟩
    case round =>
      obtain ⟨k, hk, rfl, hdrop, q, rfl⟩ := hrel
      have HDR := Lib.hid hdrop; clear hdrop
      cases k with
      | zero =>
        rw [show ((0 : Nat) : Int) - 1 = -1 from rfl]
        go_wp2
        go_ret
        refine ⟨q, ?_, rfl⟩
        have := HDR.out
        rw [List.drop_zero, List.drop_zero] at this
        rw [← HR.out, this]
        unfold ordN
        rw [if_neg (by omega), if_neg (by omega)]
        rfl
      | succ k =>
        obtain ⟨b1, o1, rfl, hc1⟩ := HS.out.at (i := k) (by omega)
        obtain ⟨b2, o2, rfl, hc2⟩ := HS'.out.at (i := k) (by omega)
        have hc1' : ∀ q, (w.drewN q).cell? ⟨b1, o1 + k, none⟩ = some (.int .u64 ((l[k]?.getD 0 : Nat) : Int)) := fun q => hc1
        have hc2' : ∀ q, (w.drewN q).cell? ⟨b2, o2 + k, none⟩ = some (.int .u64 ((l'[k]?.getD 0 : Nat) : Int)) := fun q => hc2
        rw [show ((k + 1 : Nat) : Int) - 1 = (k : Int) from by omega]
        have d1 := HD.out.1.get (by omega) k
        have d2 := HD'.out.1.get (by omega) k
        have L1 := HS.out.len
        have L2 := HS'.out.len
        have HL1 := Lib.hid L1
        have HL2 := Lib.hid L2
        clear L1 L2
        rcases Nat.lt_trichotomy (l[k]?.getD 0) (l'[k]?.getD 0) with hlt | heq | hgt
        · have hfin : R = -1 := by
            have := lt_of_digit (by omega) HD.out.1 HD'.out.1 (by rw [HL1.out, HL2.out]) k (by rw [HL1.out]; omega) HDR.out hlt
            rw [← HR.out]; unfold ordN; rw [if_pos this]
          subst hfin
          have hlt' : ((l[k]?.getD 0 : Nat) : Int) < ((l'[k]?.getD 0 : Nat) : Int) := by omega
          go_wp2
          go_quiet (fail)
          go_wp2
          go_ret
          exact ⟨q + nq, rfl, World.drewN_drewN ..⟩
        · have he1 : (((l[k]?.getD 0 : Nat) : Int) == ((l'[k]?.getD 0 : Nat) : Int)) = true := by rw [beq_iff_eq]; omega
          have hdr := drop_eq_of (by rw [HL1.out]; omega) (by rw [HL2.out]; omega) heq HDR.out
          have HDR' := Lib.hid hdr
          have HEQ := Lib.hid heq
          clear hdr heq he1
          have hge1 : ((l'[k]?.getD 0 : Nat) : Int) ≤ ((l[k]?.getD 0 : Nat) : Int) := by have := HEQ.out; omega
          have hge2 : ((l[k]?.getD 0 : Nat) : Int) ≤ ((l'[k]?.getD 0 : Nat) : Int) := by have := HEQ.out; omega
          go_wp2
          go_quiet (fail)
          go_wp2
          go_quiet (fail)
          go_wp2
          go_roundw
          case rel => exact ⟨k, by omega, rfl, HDR'.out, _, (by first | rfl | (simp only [World.drewN_drewN]; rfl))⟩
          all_goals first | (simp [intOf]; done) | (simp [intOf]; omega)
        · have hfin : R = 1 := by
            have := lt_of_digit (by omega) HD'.out.1 HD.out.1 (by rw [HL1.out, HL2.out]) k (by rw [HL2.out]; omega) HDR.out.symm hgt
            rw [← HR.out]; unfold ordN; rw [if_neg (by omega), if_pos this]
          subst hfin
          have hge1 : ((l'[k]?.getD 0 : Nat) : Int) ≤ ((l[k]?.getD 0 : Nat) : Int) := by omega
          have hgt' : ((l'[k]?.getD 0 : Nat) : Int) < ((l[k]?.getD 0 : Nat) : Int) := by omega
          go_wp2
          go_quiet (fail)
          go_wp2
          go_quiet (fail)
          go_wp2
          go_ret
          exact ⟨_, rfl, (by first | rfl | (simp only [World.drewN_drewN]; rfl))⟩
  · have h' : ¬ (n : Int) = m := by omega
    have hfin : ordN (val 18446744073709551616 l) (val 18446744073709551616 l') = 1 := by
      have := HD'.out.lt_of_length (by omega) HD.out (by rw [HS.out.len, HS'.out.len]; exact h)
      unfold ordN; rw [if_neg (by omega), if_pos this]
    rw [hfin]; clear hfin
    go_enter Tryz.func82, Tryz.ntmps82
    go_wp2
    go_ret
    exact ⟨0, rfl, rfl⟩

end Go.Proofs.YtkfekkhhfpkfaaaGreat
