/-
  Plain facts on digits, fourth part: shifts by bits, and the guess of a digit of a quotient.
-/
import Derived.Test.YtbnomdlojmgigaaGreatPkA1Q
import Derived.Test.YtbnomdlojmgigaaGreatPkA6Q
import Derived.StillTailTactics
set_option linter.unusedSimpArgs false
set_option linter.unusedVariables false
set_option maxRecDepth 100000
set_option maxHeartbeats 2000000
namespace Go.Proofs.YtbnomdlojmgigaaGreat.Dg
theorem or_add (s a b : Nat) (ha : a % 2 ^ s = 0) (hb : b < 2 ^ s) : a ||| b = a + b := by
  have h := Nat.div_add_mod a (2 ^ s)
  rw [ha, Nat.add_zero] at h
  rw [← h, Nat.two_pow_add_eq_or_of_lt hb]
theorem or_add' (s a b : Nat) (ha : a % 2 ^ s = 0) (hb : b < 2 ^ s) : b ||| a = a + b := by rw [Nat.or_comm, or_add s a b ha hb]
theorem shl_mod (s x : Nat) (hs : s ≤ 64) : x * 2 ^ s % 18446744073709551616 % 2 ^ s = 0 := by
  rw [show (18446744073709551616 : Nat) = 2 ^ s * 2 ^ (64 - s) from by rw [← Nat.pow_add, show s + (64 - s) = 64 from by omega]]
  rw [Nat.mod_mul_right_mod, Nat.mul_mod_left]
theorem shr_eq (s x : Nat) (hs : s ≤ 64) : x / 2 ^ (64 - s) = x * 2 ^ s / 18446744073709551616 := by
  rw [show (18446744073709551616 : Nat) = 2 ^ (64 - s) * 2 ^ s from by rw [← Nat.pow_add, show 64 - s + s = 64 from by omega]]
  rw [Nat.mul_div_mul_right _ _ (Nat.pow_pos (by omega))]
theorem shr_lt (s x : Nat) (hx : x < 18446744073709551616) : x * 2 ^ s / 18446744073709551616 < 2 ^ s := by
  rw [Nat.div_lt_iff_lt_mul (by omega), Nat.mul_comm]
  exact Nat.mul_lt_mul_of_pos_left hx (Nat.pow_pos (by omega))
theorem left_step (l ol : List Nat) (i q s : Nat) (hk : i + q + 1 < ol.length) (hs : s < 64) (hd : Digs 18446744073709551616 ol) (hl : l[i]?.getD 0 < 18446744073709551616)
    (h : val 18446744073709551616 ol = val 18446744073709551616 (l.take i) * 2 ^ s * 18446744073709551616 ^ q) (hc : ol[i + q]?.getD 0 < 2 ^ s) (hz : ∀ j, i + q < j → ol[j]?.getD 0 = 0) :
    let ol' := (ol.set (i + q) (ol[i + q]?.getD 0 ||| (l[i]?.getD 0 * 2 ^ s % 18446744073709551616))).set (i + q + 1) (l[i]?.getD 0 / 2 ^ (64 - s))
    val 18446744073709551616 ol' = val 18446744073709551616 (l.take (i + 1)) * 2 ^ s * 18446744073709551616 ^ q ∧ ol'[i + 1 + q]?.getD 0 < 2 ^ s ∧ (∀ j, i + 1 + q < j → ol'[j]?.getD 0 = 0) ∧ Digs 18446744073709551616 ol' ∧ ol'.length = ol.length := by
  intro ol'
  have e1 := or_add' s _ _ (shl_mod s (l[i]?.getD 0) (by omega)) hc
  have hlt : ol[i + q]?.getD 0 ||| (l[i]?.getD 0 * 2 ^ s % 18446744073709551616) < 18446744073709551616 := Nat.or_lt_two_pow (n := 64) (hd.get (by omega) _) (Nat.mod_lt _ (by omega))
  have e2 := shr_eq s (l[i]?.getD 0) (by omega)
  have hlt2 := shr_lt s _ hl
  refine ⟨?_, ?_, ?_, ?_, by simp [ol']⟩
  · have h1 := val_set 18446744073709551616 ol (i + q) (ol[i + q]?.getD 0 ||| (l[i]?.getD 0 * 2 ^ s % 18446744073709551616)) (by omega)
    have h2 := val_set 18446744073709551616 (ol.set (i + q) (ol[i + q]?.getD 0 ||| (l[i]?.getD 0 * 2 ^ s % 18446744073709551616))) (i + q + 1) (l[i]?.getD 0 / 2 ^ (64 - s)) (by rw [List.length_set]; omega)
    rw [get_set _ _ _ _ (by omega), if_neg (by omega), hz (i + q + 1) (by omega), Nat.mul_zero, Nat.add_zero] at h2
    show val _ ol' = _
    rw [h2, val_take_succ']
    rw [e1] at h1 ⊢
    rw [e2]
    have h3 := Nat.div_add_mod (l[i]?.getD 0 * 2 ^ s) 18446744073709551616
    generalize l[i]?.getD 0 * 2 ^ s / 18446744073709551616 = hi at *
    generalize l[i]?.getD 0 * 2 ^ s % 18446744073709551616 = lo at *
    rw [Nat.pow_add] at h1
    rw [Nat.pow_succ, Nat.pow_add]
    generalize val 18446744073709551616 (ol.set (i + q) (lo + ol[i + q]?.getD 0)) = X at *
    generalize val 18446744073709551616 ol = Y at *
    generalize val 18446744073709551616 (l.take i) = Z at *
    generalize 18446744073709551616 ^ i = Bi at *
    generalize 18446744073709551616 ^ q = Bq at *
    generalize l[i]?.getD 0 = x at *
    generalize ol[i + q]?.getD 0 = o at *
    generalize 2 ^ s = p at *
    grind
  · show (ol'[i + 1 + q]?.getD 0) < _
    rw [get_set _ _ _ _ (by rw [List.length_set]; omega), if_pos (by omega), e2]
    exact hlt2
  · intro j hj
    rw [get_set _ _ _ _ (by rw [List.length_set]; omega), if_neg (by omega), get_set _ _ _ _ (by omega), if_neg (by omega)]
    exact hz j (by omega)
  · refine (hd.set _ _ hlt).set _ _ ?_
    rw [e2]
    have : 2 ^ s ≤ 2 ^ 64 := Nat.pow_le_pow_right (by omega) (by omega)
    have e : (2 : Nat) ^ 64 = 18446744073709551616 := rfl
    omega
theorem right_step (m ol : List Nat) (i s : Nat) (hk : i < ol.length) (hs : s < 64) (hm : Digs 18446744073709551616 m)
    (h : val 18446744073709551616 (ol.take i) * 2 ^ s + m[0]?.getD 0 % 2 ^ s = val 18446744073709551616 (m.take i) + m[i]?.getD 0 % 2 ^ s * 18446744073709551616 ^ i) :
    let d := m[i]?.getD 0 / 2 ^ s ||| (m[i + 1]?.getD 0 * 2 ^ (64 - s) % 18446744073709551616)
    d < 18446744073709551616 ∧ val 18446744073709551616 ((ol.set i d).take (i + 1)) * 2 ^ s + m[0]?.getD 0 % 2 ^ s = val 18446744073709551616 (m.take (i + 1)) + m[i + 1]?.getD 0 % 2 ^ s * 18446744073709551616 ^ (i + 1) := by
  intro d
  have hB : (18446744073709551616 : Nat) = 2 ^ s * 2 ^ (64 - s) := by rw [← Nat.pow_add, show s + (64 - s) = 64 from by omega]
  have h1 := hm.get (by omega) i
  have e1 : m[i + 1]?.getD 0 * 2 ^ (64 - s) % 18446744073709551616 = m[i + 1]?.getD 0 % 2 ^ s * 2 ^ (64 - s) := by
    rw [hB, Nat.mul_mod_mul_right]
  have hlo : m[i]?.getD 0 / 2 ^ s < 2 ^ (64 - s) := by
    rw [Nat.div_lt_iff_lt_mul (Nat.pow_pos (by omega)), Nat.mul_comm, ← hB]; exact h1
  have e2 : d = m[i + 1]?.getD 0 % 2 ^ s * 2 ^ (64 - s) + m[i]?.getD 0 / 2 ^ s := by
    show _ ||| _ = _
    rw [e1]
    exact or_add' (64 - s) _ _ (Nat.mul_mod_left _ _) hlo
  have hd : d < 18446744073709551616 := by
    refine Nat.or_lt_two_pow (n := 64) ?_ (Nat.mod_lt _ (by omega))
    exact Nat.lt_of_le_of_lt (Nat.div_le_self _ _) h1
  refine ⟨hd, ?_⟩
  rw [val_take_set_succ _ _ _ _ hk, val_take_succ', e2, Nat.pow_succ]
  have h3 := Nat.div_add_mod (m[i]?.getD 0) (2 ^ s)
  generalize m[i]?.getD 0 / 2 ^ s = hi at *
  generalize m[i]?.getD 0 % 2 ^ s = lo at *
  generalize m[i + 1]?.getD 0 % 2 ^ s = lo' at *
  generalize 2 ^ (64 - s) = H at *
  generalize 2 ^ s = p at *
  generalize val 18446744073709551616 (ol.take i) = X at *
  generalize val 18446744073709551616 (m.take i) = Y at *
  generalize m[i]?.getD 0 = x at *
  generalize 18446744073709551616 ^ i = Bi at *
  clear e1 e2 hd hlo h1 hm d
  rw [hB]
  grind
theorem right_end (m ol : List Nat) (s : Nat) (h0 : ol.length = m.length)
    (h : val 18446744073709551616 (ol.take m.length) * 2 ^ s + m[0]?.getD 0 % 2 ^ s = val 18446744073709551616 (m.take m.length) + m[m.length]?.getD 0 % 2 ^ s * 18446744073709551616 ^ m.length) :
    val 18446744073709551616 ol = val 18446744073709551616 m / 2 ^ s := by
  rw [val_take_all _ _ _ (by omega), val_take_all _ _ _ (Nat.le_refl _), List.getElem?_eq_none (Nat.le_refl _)] at h
  simp only [Option.getD_none, Nat.zero_mod, Nat.zero_mul, Nat.add_zero] at h
  have h1 := Nat.mod_lt (m[0]?.getD 0) (show 0 < 2 ^ s from Nat.pow_pos (by omega))
  exact (quo_end h h1).1
theorem val_drop_div {l : List Nat} (hl : Digs 18446744073709551616 l) (q : Nat) : val 18446744073709551616 (l.drop q) = val 18446744073709551616 l / 18446744073709551616 ^ q := by
  rcases Nat.lt_or_ge q l.length with h | h
  · have h1 := val_split 18446744073709551616 l q (by omega)
    have h2 := val_lt (by omega) (hl.take q)
    rw [List.length_take, Nat.min_eq_left (by omega)] at h2
    exact (quo_end (by rw [h1, Nat.mul_comm, Nat.add_comm]) h2).1
  · rw [List.drop_of_length_le h]
    have h2 := val_lt (by omega) hl
    have : 18446744073709551616 ^ l.length ≤ 18446744073709551616 ^ q := Nat.pow_le_pow_right (by omega) h
    rw [Nat.div_eq_of_lt (by omega)]
    rfl
theorem pow_split (k : Nat) : 2 ^ (k % 64) * 18446744073709551616 ^ (k / 64) = 2 ^ k := by
  rw [show (18446744073709551616 : Nat) = 2 ^ 64 from rfl, ← Nat.pow_mul, ← Nat.pow_add]
  congr 1
  omega
theorem guess_start (U a b u : Nat) (ha : 0 < a) (hu : u < 4294967296) : (U * 4294967296 + u) / (a * 4294967296 + b) ≤ U / a := by
  have h1 := Nat.div_add_mod U a
  have h2 := Nat.mod_lt U ha
  apply Nat.le_of_lt_succ
  rw [Nat.div_lt_iff_lt_mul (by omega)]
  generalize U / a = q at *
  generalize U % a = r at *
  subst h1
  rw [Nat.succ_mul]
  have : q * (a * 4294967296 + b) = a * q * 4294967296 + q * b := by grind
  rw [this]
  omega
theorem guess_big {U a b u q r : Nat} (h : q * a + r = U) (hU : U < a * 4294967296 + b) (hu : u < 4294967296) (hbig : 4294967296 ≤ q ∨ 4294967296 * r + u < q * b) : (U * 4294967296 + u) / (a * 4294967296 + b) < q := by
  rw [Nat.div_lt_iff_lt_mul (by omega)]
  have e : q * (a * 4294967296 + b) = q * a * 4294967296 + q * b := by grind
  rcases hbig with hq | hq
  · have : 4294967296 * (a * 4294967296 + b) ≤ q * (a * 4294967296 + b) := Nat.mul_le_mul_right _ hq
    omega
  · rw [e]
    omega
theorem guess_fits {U a b u q r : Nat} (ha : 0 < a) (h : q * a + r = U) (hle : (U * 4294967296 + u) / (a * 4294967296 + b) ≤ q) (hq : q * b ≤ 4294967296 * r + u) : (U * 4294967296 + u) / (a * 4294967296 + b) = q := by
  refine Nat.le_antisymm hle ?_
  rw [Nat.le_div_iff_mul_le (by omega)]
  have e : q * (a * 4294967296 + b) = q * a * 4294967296 + q * b := by grind
  omega
theorem guess_le {U a b u : Nat} (hU : U < a * 4294967296 + b) (hu : u < 4294967296) : (U * 4294967296 + u) / (a * 4294967296 + b) < 4294967296 := by
  rw [Nat.div_lt_iff_lt_mul (by omega)]
  omega
end Go.Proofs.YtbnomdlojmgigaaGreat.Dg
namespace Go.Proofs.YtbnomdlojmgigaaGreat
open Go.RowKit Dg
theorem wrap_i64_of (x : Int) (h0 : -9223372036854775808 ≤ x) (h1 : x ≤ 9223372036854775807) : IntKind.i64.wrap x = x := by
  simp [IntKind.wrap, IntKind.bits, IntKind.signed]; omega
theorem shl_wrap (x s : Nat) : IntKind.u64.wrap ((x : Int) * 2 ^ s) = ((x * 2 ^ s % 18446744073709551616 : Nat) : Int) := by
  show ((x : Int) * 2 ^ s) % 18446744073709551616 = _
  simp
theorem shr_cast (x s : Nat) : (x : Int) / 2 ^ s = ((x / 2 ^ s : Nat) : Int) := by simp
theorem l_left_calls (ao : Option Addr) (n c : Nat) (l : List Nat) (k : Nat) (w : World) (hs : Sl .u64 w ao n c l) (hd : Canon 18446744073709551616 l) (hn : n ≤ 1099511627776) (hk : k ≤ 1099511627776) :
    Calls Tryz.prog 116 #[.slice ao n c, .int .i64 k] w (RetL w (val 18446744073709551616 l * 2 ^ k)) := by
  have HN := Lib.hid (NatV.sl hs hd)
  have HS := Lib.hid hs; clear hs
  have HD := Lib.hid hd; clear hd
  by_cases hn0 : n = 0
  · subst hn0
    go_enter Tryz.func116, Tryz.ntmps116
    go_wp2
    go_ret
    refine ⟨_, rfl, ?_, Below.refl _ _⟩
    have : l = [] := List.length_eq_zero_iff.1 HS.out.len
    subst this
    rw [val, Nat.zero_mul]
    exact HN.out
  · by_cases hk0 : k = 0
    · subst hk0
      have hn0' : ((n : Int) == 0) = false := by rw [beq_eq_false_iff_ne]; omega
      have hnn : n ≠ 0 := hn0
      clear hn0
      go_enter Tryz.func116, Tryz.ntmps116
      go_wp2
      go_ret
      refine ⟨_, rfl, ?_, Below.refl _ _⟩
      rw [Nat.pow_zero, Nat.mul_one]
      exact HN.out
    · have hn0' : ((n : Int) == 0) = false := by rw [beq_eq_false_iff_ne]; omega
      have hk0' : ((k : Int) == 0) = false := by rw [beq_eq_false_iff_ne]; omega
      clear hn0 hk0
      obtain ⟨i0, hi, hz0, hz1, hz2⟩ := info_parts info_u64
      go_enter Tryz.func116, Tryz.ntmps116
      go_wp2_with (at_make; refine wpList_make_u _ rfl _ _ 33 rfl 108 i0 .u64 Tryz.underlying33 hi hz0 hz1 _ _ _ _ (n + k / 64 + 1) (n + k / 64 + 1) rfl rfl ?c1 ?c2 (Nat.le_refl _) ?c3 ?c4 ?_)
      case c1 => omega
      case c2 => omega
      case c3 => rw [hz2]; omega
      case c4 => omega
      go_loopw [25] (fun iv wr => ∃ (i : Nat) (ol : List Nat), i ≤ n ∧ iv = .int .i64 i ∧ Blk .u64 108 wr w.heap.size ol ∧ ol.length = n + k / 64 + 1 ∧ Digs 18446744073709551616 ol ∧ (∀ j, i + k / 64 < j → ol[j]?.getD 0 = 0) ∧
          ol[i + k / 64]?.getD 0 < 2 ^ (k % 64) ∧ val 18446744073709551616 ol = val 18446744073709551616 (l.take i) * 2 ^ (k % 64) * 18446744073709551616 ^ (k / 64) ∧ Below w.heap.size w wr) (fun iv _ => n - (intOf iv).toNat)
      case atStart => 
        refine ⟨0, _, by omega, rfl, Blk.new .u64 _ w _, by simp, Digs.zeros (by omega) _, by intro j hj; by_cases h : j < n + k / 64 + 1 <;> simp [h], ?_, by simp [val, val_zeros], (Below.refl _ _).alloc (Nat.le_refl _) _⟩
        have := Nat.pow_pos (n := k % 64) (show 0 < 2 by omega)
        by_cases h : k / 64 < n + k / 64 + 1 <;> simp [h] <;> exact this
      case round =>
        obtain ⟨i, ol, hin, rfl, hblk, hol, hdo, hzo, htop, hval, hbel⟩ := hrel
        have HB := Lib.hid hblk
        have HO := Lib.hid hol
        have HV := Lib.hid hval
        have HDO := Lib.hid hdo
        have HBE := Lib.hid hbel
        have HZO := Lib.hid hzo
        have HT := Lib.hid htop
        have HE1 := Lib.hid (HS.out.mono hbel)
        have d1 := HD.out.1.get (by omega) i
        clear hblk hol hval hdo hbel hzo htop
        by_cases hiL : i < n
        · obtain ⟨b1, o1, rfl, hca⟩ := HE1.out.at hiL
          have hc1 := HB.out.cell (j := i + k / 64) (by have := HO.out; omega)
          have hf1 := HB.out.free (i + k / 64)
          have hbd : 0 ≤ (i : Int) + (k : Int) / 64 ∧ (i : Int) + (k : Int) / 64 < ((n + k / 64 + 1 : Nat) : Int) := by omega
          have hw1 : IntKind.i64.wrap ((k : Int) / 64) = (k : Int) / 64 := wrap_i64_of _ (by omega) (by omega)
          have hw2 : IntKind.i64.wrap ((i : Int) + (k : Int) / 64) = (i : Int) + (k : Int) / 64 := wrap_i64_of _ (by omega) (by omega)
          have hw3 : ((i : Int) + (k : Int) / 64).toNat = i + k / 64 := by omega
          have hbd2 : (i : Int) + (k : Int) / 64 < (n : Int) + (k : Int) / 64 + 1 := by omega
          have hmt : (k : Int).tmod 64 = (k : Int) % 64 := Int.tmod_eq_emod_of_nonneg (by omega)
          have hm0 : 0 ≤ (k : Int) % 64 := by omega
          have hm1 : ((k : Int) % 64).toNat = k % 64 := by omega
          have hm2 : min (k % 64) 64 = k % 64 := by omega
          have hm3 : (64 - (k : Int) % 64).toNat = 64 - k % 64 := by omega
          have hm4 : min (64 - k % 64) 64 = 64 - k % 64 := by omega
          have hm5 : 0 ≤ 64 - (k : Int) % 64 := by omega
          have hb3 : 0 ≤ (i : Int) + (k : Int) / 64 + 1 ∧ (i : Int) + (k : Int) / 64 + 1 < ((n + k / 64 + 1 : Nat) : Int) := by omega
          have hb4 : (i : Int) + (k : Int) / 64 + 1 < (n : Int) + (k : Int) / 64 + 1 := by omega
          have hw5 : ((i : Int) + (k : Int) / 64 + 1).toNat = i + k / 64 + 1 := by omega
          have hc2 := HB.out.cell (j := i + k / 64 + 1) (by have := HO.out; omega)
          have hf2 := HB.out.free (i + k / 64 + 1)
          have hstep := left_step l ol i (k / 64) (k % 64) (by have := HO.out; omega) (by omega) HDO.out d1 HV.out HT.out HZO.out
          have hshl := shl_wrap (l[i]?.getD 0) (k % 64)
          have hlt := Nat.mod_lt (l[i]?.getD 0 * 2 ^ (k % 64)) (show 0 < 18446744073709551616 by omega)
          have hshr := shr_cast (l[i]?.getD 0) (64 - k % 64)
          have d3 := HDO.out.get (by omega) (i + k / 64)
          generalize l[i]?.getD 0 * 2 ^ (k % 64) % 18446744073709551616 = z at *
          generalize l[i]?.getD 0 / 2 ^ (64 - k % 64) = y at *
          have hor := u64_or_nat _ _ d3 hlt
          have hset1 := HB.out.set (i + k / 64) (ol[i + k / 64]?.getD 0 ||| z)
          generalize ol[i + k / 64]?.getD 0 ||| z = u at *
          have hset2 := hset1.set (i + k / 64 + 1) y
          have HST := Lib.hid hstep
          have HS2 := Lib.hid hset2
          clear hstep hset1 hset2
          go_wp2
          go_still_tail 13, (by kernel_rfl)
          change wpList _ _ _ _ _ (World.drew _)
          go_wp2
          go_roundw
          case rel => 
            refine ⟨i + 1, _, by omega, by go_num, HS2.out, by rw [HST.out.2.2.2.2]; exact HO.out, HST.out.2.2.2.1, HST.out.2.2.1, HST.out.2.1, HST.out.1, ?_⟩
            exact ((HBE.out.setCell (Nat.le_refl _) _).drew).setCell (Nat.le_refl _) _
          all_goals first | (simp [intOf]; done) | (simp [intOf]; omega)
        · obtain rfl : i = n := by omega
          go_wp2_with fail
          refine (l_cut_calls _ _ _ ol _ (by have := HB.out.sl (by have := HO.out; omega); rw [HO.out] at this; exact this) HDO.out).mono ?_
          rintro e w' ⟨j, hj, hcj, hvj, rfl, rfl⟩
          go_wp2
          go_ret
          refine ⟨_, rfl, ⟨_, _, _, _, rfl, (by have := HB.out.sl (by have := HO.out; omega); rw [HO.out] at this; exact this.take j hj), hcj, ?_⟩, HBE.out⟩
          rw [hvj, HV.out, val_take_all _ l i (by have := HS.out.len; omega), Nat.mul_assoc, pow_split]
theorem l_right_calls (ao : Option Addr) (n c : Nat) (l : List Nat) (k : Nat) (w : World) (hs : Sl .u64 w ao n c l) (hd : Digs 18446744073709551616 l) (hn : n ≤ 1099511627776) (hk : k ≤ 1099511627776) :
    Calls Tryz.prog 118 #[.slice ao n c, .int .i64 k] w (RetL w (val 18446744073709551616 l / 2 ^ k)) := by
  have HS := Lib.hid hs; clear hs
  have HD := Lib.hid hd; clear hd
  by_cases hlen : n ≤ k / 64
  · go_enter Tryz.func118, Tryz.ntmps118
    go_wp2
    go_ret
    refine ⟨_, rfl, ⟨_, _, _, [], rfl, Sl.empty _ _ _ _ (by omega) (fun _ => rfl), Canon.nil _, ?_⟩, Below.refl _ _⟩
    have h1 := val_lt (by omega) HD.out
    rw [HS.out.len, show (18446744073709551616 : Nat) = 2 ^ 64 from rfl, ← Nat.pow_mul] at h1
    have h2 : 2 ^ (64 * n) ≤ 2 ^ k := Nat.pow_le_pow_right (by omega) (by omega)
    rw [show (18446744073709551616 : Nat) = 2 ^ 64 from rfl, Nat.div_eq_of_lt (by omega)]
    rfl
  · have hlen' : k / 64 < n := by omega
    clear hlen
    obtain ⟨i0, hi, hz0, hz1, hz2⟩ := info_parts info_u64
    go_enter Tryz.func118, Tryz.ntmps118
    go_wp2_with (at_make; refine wpList_make_u _ rfl _ _ 33 rfl 108 i0 .u64 Tryz.underlying33 hi hz0 hz1 _ _ _ _ (n - k / 64) (n - k / 64) rfl rfl ?c1 ?c2 (Nat.le_refl _) ?c3 ?c4 ?_)
    case c1 => omega
    case c2 => omega
    case c3 => rw [hz2]; omega
    case c4 => omega
    go_loopw [20] (fun iv wr => ∃ (i : Nat) (ol : List Nat), i ≤ n - k / 64 ∧ iv = .int .i64 i ∧ Blk .u64 108 wr w.heap.size ol ∧ ol.length = n - k / 64 ∧ Digs 18446744073709551616 ol ∧
        val 18446744073709551616 (ol.take i) * 2 ^ (k % 64) + (l.drop (k / 64))[0]?.getD 0 % 2 ^ (k % 64) = val 18446744073709551616 ((l.drop (k / 64)).take i) + (l.drop (k / 64))[i]?.getD 0 % 2 ^ (k % 64) * 18446744073709551616 ^ i ∧ Below w.heap.size w wr) (fun iv _ => n - k / 64 - (intOf iv).toNat)
    case atStart => exact ⟨0, _, by omega, rfl, Blk.new .u64 _ w _, by simp, Digs.zeros (by omega) _, by simp [val], (Below.refl _ _).alloc (Nat.le_refl _) _⟩
    case round =>
      obtain ⟨i, ol, hin, rfl, hblk, hol, hdo, hval, hbel⟩ := hrel
      have HB := Lib.hid hblk
      have HO := Lib.hid hol
      have HV := Lib.hid hval
      have HDO := Lib.hid hdo
      have HBE := Lib.hid hbel
      have HE1 := Lib.hid (HS.out.mono hbel)
      clear hblk hol hval hdo hbel
      by_cases hiL : i < n - k / 64
      · have hstep := right_step (l.drop (k / 64)) ol i (k % 64) (by have := HO.out; omega) (by omega) (HD.out.drop _) HV.out
        rw [show (l.drop (k / 64))[i]?.getD 0 = l[i + k / 64]?.getD 0 from by rw [List.getElem?_drop, Nat.add_comm], show (l.drop (k / 64))[i + 1]?.getD 0 = l[i + k / 64 + 1]?.getD 0 from by rw [List.getElem?_drop]; congr 2; omega] at hstep
        obtain ⟨b1, o1, rfl, hca⟩ := HE1.out.at (i := i + k / 64) (by omega)
        have hc1 := HB.out.cell (j := i) (by have := HO.out; omega)
        have hf1 := HB.out.free i
        have hmt : (k : Int).tmod 64 = (k : Int) % 64 := Int.tmod_eq_emod_of_nonneg (by omega)
        have hm0 : 0 ≤ (k : Int) % 64 := by omega
        have hm1 : ((k : Int) % 64).toNat = k % 64 := by omega
        have hm2 : min (k % 64) 64 = k % 64 := by omega
        have hw1 : IntKind.i64.wrap ((k : Int) / 64) = (k : Int) / 64 := wrap_i64_of _ (by omega) (by omega)
        have hw2 : IntKind.i64.wrap ((i : Int) + (k : Int) / 64) = (i : Int) + (k : Int) / 64 := wrap_i64_of _ (by omega) (by omega)
        have hw3 : ((i : Int) + (k : Int) / 64).toNat = i + k / 64 := by omega
        have hm3 : (64 - (k : Int) % 64).toNat = 64 - k % 64 := by omega
        have hm4 : min (64 - k % 64) 64 = 64 - k % 64 := by omega
        have hm5 : 0 ≤ 64 - (k : Int) % 64 := by omega
        have d1 := HD.out.get (by omega) (i + k / 64)
        have hshr := shr_cast (l[i + k / 64]?.getD 0) (k % 64)
        have hshl := shl_wrap (l[i + k / 64 + 1]?.getD 0) (64 - k % 64)
        have hlt := Nat.mod_lt (l[i + k / 64 + 1]?.getD 0 * 2 ^ (64 - k % 64)) (show 0 < 18446744073709551616 by omega)
        have hy : l[i + k / 64]?.getD 0 / 2 ^ (k % 64) < 18446744073709551616 := Nat.lt_of_le_of_lt (Nat.div_le_self _ _) d1
        by_cases hnx : i + k / 64 + 1 < n
        · have hbn : ¬ ((n : Int) ≤ (i : Int) + (k : Int) / 64 + 1) := by omega
          obtain ⟨b2, o2, e2, hcb⟩ := HE1.out.at hnx
          cases e2
          generalize l[i + k / 64 + 1]?.getD 0 * 2 ^ (64 - k % 64) % 18446744073709551616 = z at *
          generalize l[i + k / 64]?.getD 0 / 2 ^ (k % 64) = y at *
          have hor := u64_or_nat _ _ hy hlt
          have hset1 := (HB.out.set i y).set i (y ||| z)
          generalize hu : y ||| z = u at *
          rw [List.set_set] at hset1
          have HST := Lib.hid hstep
          have HS2 := Lib.hid hset1
          have HU := Lib.hid hu
          clear hstep hset1 hu
          have hne : b1 ≠ w.heap.size := by have := HS.out.lt (by omega); omega
          have hcx : (wr.setCell ⟨w.heap.size, i, none⟩ (.int .u64 (y : Int))).cell? ⟨b1, o1 + (i + k / 64 + 1), none⟩ = some (.int .u64 ((l[i + k / 64 + 1]?.getD 0 : Nat) : Int)) := by
            rw [World.cell?_setCell_other _ _ _ _ (by intro e'; simp only [Addr.mk.injEq] at e'; omega)]; exact hcb
          have hcy : (wr.setCell ⟨w.heap.size, i, none⟩ (.int .u64 (y : Int))).cell? ⟨w.heap.size, i, none⟩ = some (.int .u64 (y : Int)) := World.cell?_setCell_same _ _ _ hc1
          have hfy : (wr.setCell ⟨w.heap.size, i, none⟩ (.int .u64 (y : Int))).frozen? ⟨w.heap.size, i, none⟩ = false := by
            have := (HB.out.set i y).free i; exact this
          have hbe := HBE.out.setCell (p := ⟨w.heap.size, i, none⟩) (Nat.le_refl _) (.int .u64 (y : Int))
          have HBE2 := Lib.hid hbe
          clear hbe
          go_wp2
          generalize (wr.setCell ⟨w.heap.size, i, none⟩ (.int .u64 (y : Int))) = w2 at *
          have hb3 : (i : Int) + (k : Int) / 64 + 1 < (n : Int) := by omega
          have hb5 : 0 ≤ (i : Int) + (k : Int) / 64 + 1 := by omega
          have hw4 : IntKind.i64.wrap ((i : Int) + (k : Int) / 64 + 1) = (i : Int) + (k : Int) / 64 + 1 := wrap_i64_of _ (by omega) (by omega)
          have hw5 : ((i : Int) + (k : Int) / 64 + 1).toNat = i + k / 64 + 1 := by omega
          have hw6 : IntKind.i64.wrap (64 - (k : Int) % 64) = 64 - (k : Int) % 64 := wrap_i64_of _ (by omega) (by omega)
          have hb6 : (i : Int) < ((n - k / 64 : Nat) : Int) := by omega
          go_still_tail 18, (by kernel_rfl)
          change wpList _ _ _ _ _ (World.drew _)
          go_wp2
          go_roundw
          case rel =>
            rw [HU.out] at *
            exact ⟨i + 1, _, by omega, by go_num, HS2.out, by rw [List.length_set]; exact HO.out, HDO.out.set _ _ HST.out.1, by have := HST.out.2; rw [List.getElem?_drop, List.getElem?_drop] at *; rw [show k / 64 + (i + 1) = i + k / 64 + 1 from by omega]; exact this, (HBE2.out.drew).setCell (Nat.le_refl _) _⟩
          all_goals first | (simp [intOf]; done) | (simp [intOf]; omega)
        · have hbn : (n : Int) ≤ (i : Int) + (k : Int) / 64 + 1 := by omega
          have hz : l[i + k / 64 + 1]?.getD 0 = 0 := by rw [List.getElem?_eq_none (by have := HS.out.len; omega)]; rfl
          rw [hz, Nat.zero_mul, Nat.zero_mod, Nat.or_zero] at hstep
          have hset1 := HB.out.set i (l[i + k / 64]?.getD 0 / 2 ^ (k % 64))
          generalize l[i + k / 64]?.getD 0 / 2 ^ (k % 64) = y at *
          have HST := Lib.hid hstep
          have HS2 := Lib.hid hset1
          have HZ := Lib.hid hz
          clear hstep hset1 hz
          go_wp2
          go_roundw
          case rel =>
            exact ⟨i + 1, _, by omega, by go_num, HS2.out, by rw [List.length_set]; exact HO.out, HDO.out.set _ _ HST.out.1, by have := HST.out.2; rw [List.getElem?_drop, List.getElem?_drop] at *; rw [show k / 64 + (i + 1) = i + k / 64 + 1 from by omega, HZ.out]; exact this, HBE.out.setCell (Nat.le_refl _) _⟩
          all_goals first | (simp [intOf]; done) | (simp [intOf]; omega)
      · have hi' : i = n - k / 64 := by omega
        go_wp2_with fail
        refine (l_cut_calls _ _ _ ol _ (by have := HB.out.sl (by have := HO.out; omega); rw [HO.out] at this; exact this) HDO.out).mono ?_
        rintro e w' ⟨j, hj, hcj, hvj, rfl, rfl⟩
        go_wp2
        go_ret
        refine ⟨_, rfl, ⟨_, _, _, _, rfl, (by have := HB.out.sl (by have := HO.out; omega); rw [HO.out] at this; exact this.take j hj), hcj, ?_⟩, HBE.out⟩
        have hv := HV.out
        have hll : (l.drop (k / 64)).length = n - k / 64 := by rw [List.length_drop, HS.out.len]
        rw [hi', ← hll] at hv
        rw [hvj, right_end _ _ _ (by rw [HO.out, hll]) hv, val_drop_div HD.out, Nat.div_div_eq_div_mul, Nat.mul_comm, pow_split]
end Go.Proofs.YtbnomdlojmgigaaGreat
