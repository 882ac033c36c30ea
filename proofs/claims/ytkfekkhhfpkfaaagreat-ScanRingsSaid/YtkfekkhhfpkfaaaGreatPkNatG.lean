/-
  The contracts of the reference's natural numbers, third part: halved, Bits, Product, Shifted.
-/
import Derived.Test.YtkfekkhhfpkfaaaGreatPkRefAG
import Derived.Test.YtkfekkhhfpkfaaaGreatPkPlainG
import Derived.Deep.QuietTactic
import Derived.BigQuiet
import Derived.Deep.LoopGhost
set_option linter.unusedSimpArgs false
set_option linter.unusedVariables false
set_option maxRecDepth 100000
set_option maxHeartbeats 2000000
namespace Go.Proofs.YtkfekkhhfpkfaaaGreat
open Go.RowKit Dg
theorem r_halved_calls (ao : Option Addr) (n c : Nat) (l : List Nat) (w : World) (hs : Sl .u32 w ao n c l) (hd : Digs 4294967296 l) (hn : n ≤ 1099511627776) :
    Calls Tryz.prog 183 #[.slice ao n c] w (RetNat .u32 4294967296 w (val 4294967296 l / 2)) := by
  have HS := Lib.hid hs; clear hs
  have HD := Lib.hid hd; clear hd
  obtain ⟨i0, hi, hz0, hz1, hz2⟩ := info_parts info_u32
  go_enter Tryz.func183, Tryz.ntmps183
  go_wp2_with (at_make; refine wpList_make_u _ rfl _ _ 36 rfl 62 i0 .u32 Tryz.underlying36 hi hz0 hz1 _ _ _ _ n n rfl rfl rfl rfl (Nat.le_refl _) ?c3 ?c4 ?_)
  case c3 => rw [hz2]; omega
  case c4 => omega
  go_loopw [4] (fun iv wr => ∃ (k : Nat) (ol : List Nat), k ≤ n ∧ iv = .int .i64 k ∧ Blk .u32 62 wr w.heap.size ol ∧ ol.length = n ∧ Digs 4294967296 ol ∧
      2 * val (2 * 2147483648) (ol.take k) + l[0]?.getD 0 % 2 = val (2 * 2147483648) (l.take k) + l[k]?.getD 0 % 2 * (2 * 2147483648) ^ k ∧ Below w.heap.size w wr) (fun iv _ => n - (intOf iv).toNat)
  case atStart => exact ⟨0, _, by omega, rfl, Blk.new .u32 _ w _, by simp, Digs.zeros (by omega) _, by simp [val], (Below.refl _ _).alloc (Nat.le_refl _) _⟩
  case round =>
    obtain ⟨k, ol, hk, rfl, hblk, hol, hdo, hval, hbel⟩ := hrel
    have e1 := (HS.out).mono hbel
    have d1 := HD.out.get (by omega) k
    have d2 := HD.out.get (by omega) (k + 1)
    have HB := Lib.hid hblk
    have HO := Lib.hid hol
    have HV := Lib.hid hval
    have HDO := Lib.hid hdo
    have HBE := Lib.hid hbel
    have HE1 := Lib.hid e1
    have z2 : n ≤ k + 1 → l[k + 1]?.getD 0 = 0 := fun h => by rw [List.getElem?_eq_none (by have := HS.out.len; omega)]; rfl
    have Z2 := Lib.hid z2
    clear hblk hol hval hdo hbel e1 z2
    by_cases hkL : k < n
    · have hcell := HB.out.cell (j := k) (by have := HO.out; omega)
      have hfree := HB.out.free k
      have fin : ∀ (wf : World) (x : Nat), x = l[k]?.getD 0 / 2 + l[k + 1]?.getD 0 % 2 * 2147483648 → x < 4294967296 → Blk .u32 62 wf w.heap.size (ol.set k x) → Below w.heap.size w wf → ∃ (k' : Nat) (ol' : List Nat), k' ≤ n ∧ Value.int .i64 ((k : Int) + 1) = .int .i64 k' ∧
            Blk .u32 62 wf w.heap.size ol' ∧ ol'.length = n ∧ Digs 4294967296 ol' ∧
            2 * val (2 * 2147483648) (ol'.take k') + l[0]?.getD 0 % 2 = val (2 * 2147483648) (l.take k') + l[k']?.getD 0 % 2 * (2 * 2147483648) ^ k' ∧ Below w.heap.size w wf := by
        rintro wf x rfl hx hb hbe
        exact ⟨k + 1, _, by omega, by go_num, hb, by rw [List.length_set]; exact HO.out, HDO.out.set _ _ hx, half_step _ _ _ _ (by rw [HO.out]; exact hkL) HV.out, hbe⟩
      have FIN := Lib.hid fin
      clear fin
      obtain ⟨b1, o1, rfl, hc⟩ := HE1.out.all (by omega)
      have hc1 := hc k hkL
      have hc2 : k + 1 < n → wr.cell? ⟨b1, o1 + (k + 1), none⟩ = some (.int .u32 ((l[k + 1]?.getD 0 : Nat) : Int)) := fun h => hc (k + 1) h
      clear hc
      have hset := HB.out.set k (l[k]?.getD 0 / 2)
      have HSET := Lib.hid hset
      clear hset
      have hlt : b1 < w.heap.size := HS.out.lt (by omega)
      by_cases h2 : k + 1 < n
      · have hc2' := hc2 h2
        clear hc2
        by_cases h3 : l[k + 1]?.getD 0 % 2 = 1
        · have h3' : (((l[k + 1]?.getD 0 : Nat) : Int) % 2 == 1) = true := by rw [beq_iff_eq]; omega
          have H3 := Lib.hid h3
          clear h3
          go_wp2
          go_roundw
          case rel =>
            refine FIN.out _ (l[k]?.getD 0 / 2 + 2147483648) (by rw [H3.out]) (by omega) ?_ ((HBE.out.setCell (Nat.le_refl _) _).setCell (Nat.le_refl _) _)
            have := HSET.out.set k (l[k]?.getD 0 / 2 + 2147483648)
            rw [List.set_set] at this
            simpa using this
          all_goals first | (simp [intOf]; done) | (simp [intOf]; omega)
        · have h3' : (((l[k + 1]?.getD 0 : Nat) : Int) % 2 == 1) = false := by rw [beq_eq_false_iff_ne]; omega
          have H3 := Lib.hid h3
          clear h3
          go_wp2
          go_roundw
          case rel =>
            refine FIN.out _ (l[k]?.getD 0 / 2) (by have := H3.out; omega) (by omega) ?_ (HBE.out.setCell (Nat.le_refl _) _)
            simpa using HSET.out
          all_goals first | (simp [intOf]; done) | (simp [intOf]; omega)
      · clear hc2
        have h2' : n ≤ k + 1 := by omega
        go_wp2
        go_roundw
        case rel =>
          refine FIN.out _ (l[k]?.getD 0 / 2) (by have := Z2.out h2'; omega) (by omega) ?_ (HBE.out.setCell (Nat.le_refl _) _)
          simpa using HSET.out
        all_goals first | (simp [intOf]; done) | (simp [intOf]; omega)
    · go_wp2_with fail
      obtain rfl : k = n := by omega
      refine (r_cut_calls 4294967296 _ _ _ ol _ (by have := HB.out.sl (by have := HO.out; omega); rw [HO.out] at this; exact this) HDO.out).mono ?_
      rintro e w' ⟨j, hj, hcj, hvj, rfl, rfl⟩
      go_wp2
      go_ret
      refine ⟨_, rfl, ⟨_, _, _, _, rfl, (by have := HB.out.sl (by have := HO.out; omega); rw [HO.out] at this; exact this.take j hj), hcj, ?_⟩, HBE.out, Fresh.at _ _ _ _⟩
      rw [hvj]
      have hv := HV.out
      rw [← HO.out] at hv
      exact half_end (by rw [HO.out, HS.out.len]) hv
theorem r_Bits_calls (ao : Option Addr) (n c : Nat) (l : List Nat) (w : World) (hs : Sl .u32 w ao n c l) (hd : Canon 4294967296 l) (hn : n ≤ 1099511627776) :
    Calls Tryz.prog 151 #[.slice ao n c] w fun e w' => e = .returned (.int .i64 (bl (val 4294967296 l))) ∧ w = w' := by
  have HS := Lib.hid hs; clear hs
  have HD := Lib.hid hd; clear hd
  cases n with
  | zero =>
    have : l = [] := List.length_eq_zero_iff.1 HS.out.len
    subst this
    go_enter Tryz.func151, Tryz.ntmps151
    go_wp2
    go_ret
    exact ⟨rfl, rfl⟩
  | succ n =>
    have ht := HD.out.2 (by rw [HS.out.len]; omega)
    rw [HS.out.len, Nat.add_sub_cancel] at ht
    have hbl := bl_val 32 (l := l) HD.out.1 n HS.out.len (by omega)
    rw [show (2 : Nat) ^ 32 = 4294967296 from rfl] at hbl
    obtain ⟨b1, o1, rfl, hc⟩ := HS.out.at (i := n) (by omega)
    have d1 := HD.out.1.get (by omega) n
    generalize l[n]?.getD 0 = t at *
    generalize val 4294967296 l = V at *
    have HBL := Lib.hid hbl; clear hbl
    have hblt : bl t ≤ 32 := bl_le_of_lt d1
    go_enter Tryz.func151, Tryz.ntmps151
    go_wp2
    go_loop [3, 4] (fun nv xv => ∃ (j x : Nat), nv = .int .i64 (32 * (n : Int) + j) ∧ xv = .int .u32 x ∧ x < 4294967296 ∧ j + bl x = bl t) (fun _ xv => (intOf xv).toNat)
    case atStart => exact ⟨0, t, rfl, rfl, d1, by omega⟩
    case round =>
      obtain ⟨j, x, rfl, rfl, hx, hj⟩ := hrel
      have hj' : j ≤ 32 := by omega
      by_cases h0 : x = 0
      · subst h0
        rw [bl_zero] at hj
        have HJ := Lib.hid hj; clear hj
        go_wp2
        go_ret
        refine ⟨?_, rfl⟩
        rw [HBL.out, ← HJ.out]
        congr 2
      · have h0' : 0 < x := by omega
        have hb := bl_half h0'
        have HH := Lib.hid (show (j + 1) + bl (x / 2) = bl t by omega)
        clear hb hj
        go_wp2
        go_round
        case rel => exact ⟨j + 1, x / 2, by go_num, by simp, by omega, HH.out⟩
        all_goals first | (simp [intOf]; done) | (simp [intOf]; omega)
theorem val_bound {B : Nat} (hB : 0 < B) {i m a P : Nat} {l l' : List Nat} (hl : Digs B l) (hl' : Digs B l') (hi : (l.take i).length ≤ i) (hm : l'.length = m) (ha : a < B) (hP : P = val B (l.take i) * val B l') :
    P + a * val B l' * B ^ i < B ^ (i + m + 1) := by
  subst hP
  have h1 := val_lt hB (hl.take i)
  have h2 := val_lt hB hl'
  rw [hm] at h2
  have h3 : B ^ (l.take i).length ≤ B ^ i := Nat.pow_le_pow_right hB hi
  generalize val B (l.take i) = u at *
  generalize val B l' = v at *
  rw [Nat.pow_succ, Nat.pow_add]
  have hu : u < B ^ i := by omega
  generalize B ^ i = I at *
  generalize B ^ m = M at *
  have a1 : u * v ≤ I * v := Nat.mul_le_mul_right _ (by omega)
  have a2 : (a + 1) * v * I ≤ B * v * I := Nat.mul_le_mul_right _ (Nat.mul_le_mul_right _ ha)
  have a3 : B * I * (v + 1) ≤ B * I * M := Nat.mul_le_mul_left _ h2
  have hI : 0 < I := by omega
  have a4 : 0 < B * I := Nat.mul_pos hB hI
  grind
theorem top_small {B : Nat} {ol : List Nat} {j carry T : Nat} (hB : 0 < B) (hj : j < ol.length) (h : val B ol + carry * B ^ j = T) (hT : T < B ^ (j + 1)) : ol[j]?.getD 0 + carry < B := by
  have h1 := val_split B ol j (by omega)
  rw [val_drop_succ _ _ _ hj] at h1
  have hp : 0 < B ^ j := Nat.pow_pos hB
  rw [Nat.pow_succ] at hT
  generalize ol[j]?.getD 0 = o at *
  have : B ^ j * (o + carry) < B ^ j * B := by
    have : B ^ j * o ≤ B ^ j * (o + B * val B (ol.drop (j + 1))) := Nat.mul_le_mul_left _ (by omega)
    rw [Nat.mul_add]
    rw [Nat.mul_comm carry] at h
    omega
  exact Nat.lt_of_mul_lt_mul_left this
theorem r_Product_calls (ao bo : Option Addr) (n c m d : Nat) (l l' : List Nat) (w : World) (hs : Sl .u32 w ao n c l) (hs' : Sl .u32 w bo m d l') (hd : Digs 4294967296 l) (hd' : Digs 4294967296 l')
    (hn : n ≤ 1099511627776) (hm : m ≤ 1099511627776) :
    Calls Tryz.prog 114 #[.slice ao n c, .slice bo m d] w (RetNat .u32 4294967296 w (val 4294967296 l * val 4294967296 l')) := by
  have HS := Lib.hid hs; clear hs
  have HS' := Lib.hid hs'; clear hs'
  have HD := Lib.hid hd; clear hd
  have HD' := Lib.hid hd'; clear hd'
  obtain ⟨i0, hi, hz0, hz1, hz2⟩ := info_parts info_u32
  go_enter Tryz.func114, Tryz.ntmps114
  go_wp2_with (at_make; refine wpList_make_u _ rfl _ _ 36 rfl 62 i0 .u32 Tryz.underlying36 hi hz0 hz1 _ _ _ _ (n + m) (n + m) rfl rfl ?c1 ?c2 (Nat.le_refl _) ?c3 ?c4 ?_)
  case c1 => omega
  case c2 => omega
  case c3 => rw [hz2]; omega
  case c4 => omega
  go_loopw [6] (fun iv wr => ∃ (i : Nat) (ol : List Nat), i ≤ n ∧ iv = .int .i64 i ∧ Blk .u32 62 wr w.heap.size ol ∧ ol.length = n + m ∧ Digs 4294967296 ol ∧
      val 4294967296 ol = val 4294967296 (l.take i) * val 4294967296 l' ∧ Below w.heap.size w wr) (fun iv _ => n - (intOf iv).toNat)
  case atStart => exact ⟨0, _, by omega, rfl, Blk.new .u32 _ w _, by simp, Digs.zeros (by omega) _, by simp [val, val_zeros], (Below.refl _ _).alloc (Nat.le_refl _) _⟩
  case round =>
    obtain ⟨i, ol, hin, rfl, hblk, hol, hdo, hval, hbel⟩ := hrel
    by_cases hiL : i < n
    · obtain ⟨wo, rfl⟩ : ∃ wo : World, wo = wr := ⟨_, rfl⟩
      have hvb := val_bound (i := i) (m := m) (P := val 4294967296 (l.take i) * val 4294967296 l') (by omega) HD.out HD'.out (by rw [List.length_take]; omega) HS'.out.len (HD.out.get (by omega) i) rfl
      have d1 := HD.out.get (by omega) i
      have HB := Lib.hid hblk
      have HO := Lib.hid hol
      have HV := Lib.hid hval
      have HDO := Lib.hid hdo
      have HBE := Lib.hid hbel
      have HVB := Lib.hid hvb
      clear hblk hol hval hdo hbel hvb
      go_wp2
      go_loopw [7, 8] (fun cv kv wr => ∃ (k carry : Nat) (ol : List Nat), k ≤ m + 1 ∧ kv = .int .i64 k ∧ cv = .int .u64 carry ∧ carry < 4294967296 ∧ (k = m + 1 → carry = 0) ∧ Blk .u32 62 wr w.heap.size ol ∧ ol.length = n + m ∧ Digs 4294967296 ol ∧
        val 4294967296 ol + carry * 4294967296 ^ (i + k) = val 4294967296 (l.take i) * val 4294967296 l' + l[i]?.getD 0 * val 4294967296 (l'.take k) * 4294967296 ^ i ∧ Below w.heap.size w wr) (fun _ kv _ => m + 1 - (intOf kv).toNat)
      case atStart => exact ⟨0, 0, ol, by omega, rfl, rfl, by omega, by omega, HB.out, HO.out, HDO.out, by rw [HV.out]; simp [val], HBE.out⟩
      case round =>
        clear HB HO HV HDO HBE
        obtain ⟨k, carry, ol, hk, rfl, rfl, hc0, hc1, hblk, hol, hdo, hval, hbel⟩ := hrel
        have e1 := (HS.out).mono hbel
        have e2 := (HS'.out).mono hbel
        have hlt : 0 < m → ∀ b o, bo = some ⟨b, o, none⟩ → b < w.heap.size := by rintro h b o rfl; exact HS'.out.lt h
        have HLT := Lib.hid hlt
        have HB := Lib.hid hblk
        have HO := Lib.hid hol
        have HV := Lib.hid hval
        have HDO := Lib.hid hdo
        have HBE := Lib.hid hbel
        have HE1 := Lib.hid e1
        have HE2 := Lib.hid e2
        have HC1 := Lib.hid hc1
        clear hblk hol hval hdo hbel e1 e2 hlt hc1
        have d2 := HD'.out.get (by omega) k
        have z2 : m ≤ k → l'[k]?.getD 0 = 0 := fun h => by rw [List.getElem?_eq_none (by have := HS'.out.len; omega)]; rfl
        have Z2 := Lib.hid z2
        clear z2
        have fin : ∀ (wf : World) (x : Nat), i + k < n + m → k < m + 1 → (k = m → x < 4294967296) → x = ol[i + k]?.getD 0 + carry + l[i]?.getD 0 * l'[k]?.getD 0 → x / 4294967296 < 4294967296 → Blk .u32 62 wf w.heap.size (ol.set (i + k) (x % 4294967296)) → Below w.heap.size w wf →
            ∃ (k' carry' : Nat) (ol' : List Nat), k' ≤ m + 1 ∧ Value.int .i64 ((k : Int) + 1) = .int .i64 k' ∧ Value.int .u64 ((x : Int) / 4294967296) = .int .u64 carry' ∧ carry' < 4294967296 ∧ (k' = m + 1 → carry' = 0) ∧ Blk .u32 62 wf w.heap.size ol' ∧ ol'.length = n + m ∧ Digs 4294967296 ol' ∧
            val 4294967296 ol' + carry' * 4294967296 ^ (i + k') = val 4294967296 (l.take i) * val 4294967296 l' + l[i]?.getD 0 * val 4294967296 (l'.take k') * 4294967296 ^ i ∧ Below w.heap.size w wf := by
          intro wf x h1 h2 h3 hx hxb hb hbe
          exact ⟨k + 1, x / 4294967296, _, by omega, by go_num, rfl, hxb, by intro hk'; have := h3 (by omega); omega, hb, by rw [List.length_set]; exact HO.out, HDO.out.set _ _ (Nat.mod_lt _ (by omega)), mul_step _ _ _ _ _ _ _ _ _ (by rw [HO.out]; exact h1) HV.out hx.symm, hbe⟩
        have FIN := Lib.hid fin
        clear fin
        by_cases hkm : k < m
        · have hcell := HB.out.cell (j := i + k) (by have := HO.out; omega)
          have hfree := HB.out.free (i + k)
          have d3 := HDO.out.get (by omega) (i + k)
          have hab : l[i]?.getD 0 * l'[k]?.getD 0 ≤ 4294967295 * 4294967295 := Nat.mul_le_mul (by omega) (by omega)
          have hab' : ((l[i]?.getD 0 : Nat) : Int) * ((l'[k]?.getD 0 : Nat) : Int) ≤ 18446744065119617025 := by
            have : ((l[i]?.getD 0 * l'[k]?.getD 0 : Nat) : Int) ≤ 18446744065119617025 := by omega
            simpa using this
          have hab0 : 0 ≤ ((l[i]?.getD 0 : Nat) : Int) * ((l'[k]?.getD 0 : Nat) : Int) := by
            have : 0 ≤ ((l[i]?.getD 0 * l'[k]?.getD 0 : Nat) : Int) := Int.natCast_nonneg _
            simpa using this
          have HAB := Lib.hid hab
          clear hab
          obtain ⟨b1, o1, rfl, hc1⟩ := HE1.out.at hiL
          obtain ⟨b2, o2, rfl, hc2⟩ := HE2.out.at hkm
          have hq : (ol[i + k]?.getD 0 + carry + l[i]?.getD 0 * l'[k]?.getD 0) / 4294967296 < 4294967296 := by have := HAB.out; omega
          have HQ := Lib.hid hq
          clear hq
          go_wp2
          go_quiet (fail)
          go_wp2
          go_roundw
          case rel => exact FIN.out _ (ol[i + k]?.getD 0 + carry + l[i]?.getD 0 * l'[k]?.getD 0) (by omega) (by omega) (by omega) rfl HQ.out (by have := (HB.out.drewN nq).set (i + k) ((ol[i + k]?.getD 0 + carry + l[i]?.getD 0 * l'[k]?.getD 0) % 4294967296); simpa using this) ((belowN HBE.out nq).setCell (Nat.le_refl _) _)
          all_goals first | (simp [intOf]; done) | (simp [intOf]; omega)
        · by_cases hcz : carry = 0
          · subst hcz
            have h1' : ¬ ((k : Int) < (m : Int)) := by omega
            go_wp2
            go_roundw
            case rel =>
              refine ⟨i + 1, ol, by omega, by go_num, HB.out, HO.out, HDO.out, ?_, HBE.out⟩
              have := HV.out
              rw [val_take_all _ l' k (by have := HS'.out.len; omega), Nat.zero_mul, Nat.add_zero] at this
              rw [this, val_take_succ']
              generalize val 4294967296 (l.take i) = A
              generalize 4294967296 ^ i = Bi
              generalize l[i]?.getD 0 = a
              grind
            all_goals first | (simp [intOf]; done) | (simp [intOf]; omega)
          · have hk' : k = m := by have := HC1.out; omega
            have hkm' : m ≤ k := by omega
            have hcz' : 0 < carry := by omega
            have hcell := HB.out.cell (j := i + k) (by have := HO.out; omega)
            have hfree := HB.out.free (i + k)
            have d3 := HDO.out.get (by omega) (i + k)
            have hik : i + k < n + m := by omega
            have hsm : ol[i + k]?.getD 0 + carry < 4294967296 := by
              subst hk'
              exact top_small (by omega) (by rw [HO.out]; exact hik) (by have := HV.out; rw [val_take_all _ l' k (by have := HS'.out.len; omega)] at this; exact this) HVB.out
            have hset := HB.out.set (i + k) ((ol[i + k]?.getD 0 + carry) % 4294967296)
            have HSET := Lib.hid hset
            clear hset
            have HK := Lib.hid hk'
            clear hk'
            go_wp2
            go_roundw
            case rel =>
              refine FIN.out _ (ol[i + k]?.getD 0 + carry) hik (Nat.lt_succ_of_le (Nat.le_of_eq HK.out)) (fun _ => hsm) ?_ (by omega) (by simpa using HSET.out) (HBE.out.setCell (Nat.le_refl _) _)
              rw [Z2.out hkm', Nat.mul_zero, Nat.add_zero]
            all_goals first | (simp [intOf]; done) | (have := HK.out; simp [intOf]; omega)
    · have HB := Lib.hid hblk
      have HO := Lib.hid hol
      have HV := Lib.hid hval
      have HDO := Lib.hid hdo
      have HBE := Lib.hid hbel
      clear hblk hol hval hdo hbel
      go_wp2_with fail
      obtain rfl : i = n := by omega
      refine (r_cut_calls 4294967296 _ _ _ ol _ (by have := HB.out.sl (by have := HO.out; omega); rw [HO.out] at this; exact this) HDO.out).mono ?_
      rintro e w' ⟨j, hj, hcj, hvj, rfl, rfl⟩
      go_wp2
      go_ret
      refine ⟨_, rfl, ⟨_, _, _, _, rfl, (by have := HB.out.sl (by have := HO.out; omega); rw [HO.out] at this; exact this.take j hj), hcj, ?_⟩, HBE.out, Fresh.at _ _ _ _⟩
      rw [hvj, HV.out, val_take_all _ l _ (by have := HS.out.len; omega)]
end Go.Proofs.YtkfekkhhfpkfaaaGreat
namespace Go.Proofs.YtkfekkhhfpkfaaaGreat
open Go.RowKit Dg
theorem val_zeros_append (B n : Nat) (l : List Nat) : val B (List.replicate n 0 ++ l) = val B l * B ^ n := by
  rw [val_append, val_zeros, List.length_replicate, Nat.zero_add, Nat.mul_comm]
theorem shift_parts (x s : Nat) : x * 4294967296 ^ (s / 32) * 2 ^ (s % 32) = x * 2 ^ s := by
  rw [show (4294967296 : Nat) = 2 ^ 32 from rfl, ← Nat.pow_mul, Nat.mul_assoc, ← Nat.pow_add, Nat.div_add_mod]
theorem r_Shifted_calls (ao : Option Addr) (n c : Nat) (l : List Nat) (s : Int) (w : World) (hs : Sl .u32 w ao n c l) (hd : Digs 4294967296 l) (hn : n ≤ 17179869184) (h0 : 0 ≤ s) (h1 : s ≤ 17179869184) :
    Calls Tryz.prog 176 #[.slice ao n c, .int .i64 s] w (RetNat .u32 4294967296 w (val 4294967296 l * 2 ^ s.toNat)) := by
  obtain ⟨s, rfl⟩ := Int.eq_ofNat_of_zero_le h0
  rw [Int.toNat_natCast, ← shift_parts]
  have h5 : s % 32 < 32 := Nat.mod_lt _ (by omega)
  have hlen := hs.len
  have HS := Lib.hid hs; clear hs
  have HD := Lib.hid hd; clear hd
  have HL := Lib.hid hlen; clear hlen
  obtain ⟨i0, hi, hz0, hz1, hz2⟩ := info_parts info_u32
  have hbz := Blk.new .u32 62 w (List.replicate (s / 32) 0)
  have hbe : Below w.heap.size w (w.alloc (.cells (U .u32 (List.replicate (s / 32) 0)) 62)) := (Below.refl _ _).alloc (Nat.le_refl _) _
  have howns := hbz.owns (by rw [List.length_replicate]; omega)
  rw [List.length_replicate] at howns
  have HOWN := Lib.hid howns
  have HBE := Lib.hid hbe
  have HBZ := Lib.hid hbz
  clear howns hbe hbz
  have hp5 : 2 ^ (s % 32) < 2 ^ 32 := Nat.pow_lt_pow_right (by omega) h5
  have hwrap : IntKind.u64.wrap ((2 : Int) ^ (s % 32)) = ((2 ^ (s % 32) : Nat) : Int) := by
    rw [show ((2 : Int) ^ (s % 32)) = ((2 ^ (s % 32) : Nat) : Int) from by simp]
    generalize 2 ^ (s % 32) = p at *
    rw [show (2 : Nat) ^ 32 = 4294967296 from rfl] at hp5
    show ((p : Int)) % 18446744073709551616 = p
    omega
  generalize 2 ^ (s % 32) = p at *
  rw [show (2 : Nat) ^ 32 = 4294967296 from rfl] at hp5
  have HWR := Lib.hid hwrap
  clear hwrap
  rcases ao with _ | ad
  · have hn0 : n = 0 := by
      rcases Nat.eq_zero_or_pos n with h | h
      · exact h
      · obtain ⟨b, o, e, _⟩ := HS.out.at h
        cases e
    subst hn0
    have : l = [] := List.length_eq_zero_iff.1 HL.out
    subst this
    have hc0 := HS.out.nil rfl
    subst hc0
    go_enter Tryz.func176, Tryz.ntmps176
    go_wp2_with (first
      | (at_make; refine wpList_make_u _ rfl _ _ 36 rfl 62 i0 .u32 Tryz.underlying36 hi hz0 hz1 _ _ _ _ (s / 32) (s / 32) rfl rfl ?c1 ?c2 (Nat.le_refl _) ?c3 ?c4 ?_)
      | (at_builtin; refine wpList_append_own_none rfl _ _ 36 rfl w.heap.size 62 i0 1 Tryz.underlying36 hi _ _ _ rfl HOWN.out rfl ?_))
    case c1 => omega
    case c2 => omega
    case c3 => rw [hz2]; omega
    case c4 => omega
    have hsl := HBZ.out.sl (by rw [List.length_replicate]; omega)
    rw [List.length_replicate] at hsl
    have hsl : Sl .u32 (w.alloc (.cells (U .u32 (List.replicate (s / 32) 0)) 62)) (some ⟨w.heap.size, 0, none⟩) (s / 32) (s / 32) (List.replicate (s / 32) 0 ++ []) := by rw [List.append_nil]; exact hsl
    have HSL := Lib.hid hsl
    have HBEL := HBE
    clear hsl
    go_wp2_with fail
    rw [HWR.out]
    refine (r_Nat_calls _ _ (by omega) (by omega)).mono ?_
    rintro e w2 ⟨_, rfl, ⟨ao2, n2, c2, l2, rfl, hs2, hc2, hv2⟩, hb2, _⟩
    rw [Int.toNat_natCast] at hv2
    have hn2 : n2 ≤ 1 := by rw [← hs2.len]; exact hc2.length_le (by omega) (by rw [hv2]; omega)
    have HS2 := Lib.hid hs2
    have HC2 := Lib.hid hc2
    have HV2 := Lib.hid hv2
    have HB2 := Lib.hid hb2
    clear hs2 hc2 hv2 hb2
    go_wp2_with fail
    refine (r_Product_calls _ _ _ _ _ _ _ _ _ (HSL.out.mono HB2.out) HS2.out ((Digs.zeros (by omega) _).append HD.out) HC2.out.1 (by omega) (by omega)).mono ?_
    rintro e w3 ⟨_, rfl, hnv, hb3, hf3⟩
    rw [HV2.out, val_zeros_append] at hnv
    have HNV := Lib.hid hnv
    have HB3 := Lib.hid hb3
    clear hnv hb3
    go_wp2
    go_ret
    exact ⟨_, rfl, HNV.out, (HBEL.out.trans (HB2.out.mono HBEL.out.size)).trans (HB3.out.mono (Nat.le_trans HBEL.out.size HB2.out.size)), hf3.mono (Nat.le_trans HBEL.out.size HB2.out.size)⟩
  · have hnews := HS.out.news' HBE.out
    have HNEWS := Lib.hid hnews; clear hnews
    go_enter Tryz.func176, Tryz.ntmps176
    go_wp2_with (first
      | (at_make; refine wpList_make_u _ rfl _ _ 36 rfl 62 i0 .u32 Tryz.underlying36 hi hz0 hz1 _ _ _ _ (s / 32) (s / 32) rfl rfl ?c1 ?c2 (Nat.le_refl _) ?c3 ?c4 ?_)
      | (at_builtin; refine wpList_append_own _ rfl _ _ 36 rfl w.heap.size 62 i0 (.int .u32 0) 1 4 Tryz.underlying36 hi hz0 hz1 hz2 rfl (by decide) _ _ _ rfl HOWN.out ad n c (l.map fun x : Nat => Value.int .u32 (x : Int)) rfl ?d1 HNEWS.out (map_oneCell _ _) ?d2 ?d3 ?d4 ?_))
    case c1 => omega
    case c2 => omega
    case c3 => rw [hz2]; omega
    case c4 => omega
    case d1 => rw [List.length_map, HL.out, Nat.mul_one]
    case d2 => unfold maxLen; omega
    case d3 => omega
    case d4 => simp
    intro v' w1 hown' hgrow hnil
    have hown' : w1.ownsRow w.heap.size 62 1 v' (s / 32 + n) ((List.replicate (s / 32) 0 ++ l).map fun x : Nat => Value.int .u32 (x : Int)) := by simpa using hown'
    have hne : v' ≠ .slice none 0 0 := fun h => by first | exact hnil h | (have := (hnil.1 h).1; cases this)
    obtain ⟨ao', c', rfl, hsl⟩ := Sl.of_owns hown' (.inl hne)
    have hbel := below_of_grown hgrow HBE.out (by simp)
    have HSL := Lib.hid hsl
    have HBEL := Lib.hid hbel
    clear hown' hgrow hnil hsl hbel hne
    go_wp2_with fail
    rw [HWR.out]
    refine (r_Nat_calls _ _ (by omega) (by omega)).mono ?_
    rintro e w2 ⟨_, rfl, ⟨ao2, n2, c2, l2, rfl, hs2, hc2, hv2⟩, hb2, _⟩
    rw [Int.toNat_natCast] at hv2
    have hn2 : n2 ≤ 1 := by rw [← hs2.len]; exact hc2.length_le (by omega) (by rw [hv2]; omega)
    have HS2 := Lib.hid hs2
    have HC2 := Lib.hid hc2
    have HV2 := Lib.hid hv2
    have HB2 := Lib.hid hb2
    clear hs2 hc2 hv2 hb2
    go_wp2_with fail
    refine (r_Product_calls _ _ _ _ _ _ _ _ _ (HSL.out.mono HB2.out) HS2.out ((Digs.zeros (by omega) _).append HD.out) HC2.out.1 (by omega) (by omega)).mono ?_
    rintro e w3 ⟨_, rfl, hnv, hb3, hf3⟩
    rw [HV2.out, val_zeros_append] at hnv
    have HNV := Lib.hid hnv
    have HB3 := Lib.hid hb3
    clear hnv hb3
    go_wp2
    go_ret
    exact ⟨_, rfl, HNV.out, (HBEL.out.trans (HB2.out.mono HBEL.out.size)).trans (HB3.out.mono (Nat.le_trans HBEL.out.size HB2.out.size)), hf3.mono (Nat.le_trans HBEL.out.size HB2.out.size)⟩
end Go.Proofs.YtkfekkhhfpkfaaaGreat
namespace Go.Proofs.YtkfekkhhfpkfaaaGreat
open Go.RowKit Dg
def RetNat2 (k : IntKind) (B : Nat) (w : World) (x y : Nat) (e : Ending) (w' : World) : Prop :=
  ∃ v1 v2, e = .returned (.tuple #[v1, v2]) ∧ NatV k B w' v1 x ∧ NatV k B w' v2 y ∧ Below w.heap.size w w'
theorem ordN_ge {x y : Nat} (h : y ≤ x) : 0 ≤ ordN x y := by unfold ordN; rw [if_neg (by omega)]; split <;> omega
theorem ordN_lt {x y : Nat} (h : x < y) : ordN x y < 0 := by unfold ordN; rw [if_pos h]; omega
theorem bl_len {l : List Nat} (h : Canon 4294967296 l) (n : Nat) (hn : l.length = n) : bl (val 4294967296 l) ≤ 32 * n := by
  apply bl_le_of_lt
  have := val_lt (by omega) h.1
  rw [hn] at this
  rwa [show (4294967296 : Nat) = 2 ^ 32 from rfl, ← Nat.pow_mul] at this
def QuoInv (w : World) (A b n : Nat) (av dv iv : Value) (wr : World) : Prop :=
  ∃ (k aA : Nat) (ql : List Nat), k ≤ n + 1 ∧ iv = .int .i64 ((k : Int) - 1) ∧ NatV .u32 4294967296 wr av aA ∧ (∀ j, k = j + 1 → NatV .u32 4294967296 wr dv (b * 2 ^ j)) ∧
    Blk .u32 62 wr w.heap.size ql ∧ ql.length = n / 32 + 1 ∧ Digs 4294967296 ql ∧ val 4294967296 ql * b + aA = A ∧ aA < b * 2 ^ k ∧ val 4294967296 ql % 2 ^ k = 0 ∧ aA ≤ A ∧ Below w.heap.size w wr ∧ Away w.heap.size av ∧ (0 < k → Away w.heap.size dv)
theorem r_Quotient_one (ao bo : Option Addr) (n c d : Nat) (l l' : List Nat) (w : World) (hs : Sl .u32 w ao n c l) (hs' : Sl .u32 w bo 1 d l') (hd : Digs 4294967296 l) (hd' : Canon 4294967296 l')
    (hn : n ≤ 536870912) :
    Calls Tryz.prog 165 #[.slice ao n c, .slice bo 1 d] w (RetNat2 .u32 4294967296 w (val 4294967296 l / val 4294967296 l') (val 4294967296 l % val 4294967296 l')) := by
  have h0 := hd'.2 (by rw [hs'.len]; omega)
  rw [hs'.len] at h0
  have d1 := hd'.1.get (by omega) 0
  obtain ⟨b1, o1, rfl, hc⟩ := hs'.at (i := 0) (by omega)
  rw [Nat.add_zero] at hc
  have hl' : l' = [l'[0]?.getD 0] := by
    obtain ⟨x, rfl⟩ := List.length_eq_one_iff.1 hs'.len
    rfl
  have hv' : val 4294967296 l' = l'[0]?.getD 0 := by rw [hl']; simp [val]
  rw [hv']
  have h0' : 0 < l'[0]?.getD 0 := by have := h0; simp at this; omega
  clear h0 hl' hv'
  generalize l'[0]?.getD 0 = y at *
  have HS := Lib.hid hs; clear hs
  have HD := Lib.hid hd; clear hd
  clear hs' hd'
  go_enter Tryz.func165, Tryz.ntmps165
  go_wp2_with fail
  refine (r_byDigit_calls _ _ _ _ (y : Int) _ HS.out HD.out (by omega) (by omega) (by omega)).mono ?_
  rintro e w1 ⟨v1, rfl, hv1, hb1⟩
  rw [Int.toNat_natCast] at *
  have hrem := Nat.mod_lt (val 4294967296 l) h0'
  generalize val 4294967296 l % y = r at *
  have HV1 := Lib.hid hv1
  have HB1 := Lib.hid hb1
  clear hv1 hb1
  go_wp2_with fail
  refine (r_Nat_calls _ _ (by omega) (by omega)).mono ?_
  rintro e w2 ⟨v2, rfl, hv2, hb2, _⟩
  rw [Int.toNat_natCast] at *
  have HV2 := Lib.hid hv2
  have HB2 := Lib.hid hb2
  clear hv2 hb2
  go_wp2
  go_ret2
  exact ⟨_, _, rfl, HV1.out.mono HB2.out, HV2.out, HB1.out.trans (HB2.out.mono HB1.out.size)⟩
theorem r_Quotient_many (ao bo : Option Addr) (n c m d : Nat) (l l' : List Nat) (w : World) (hs : Sl .u32 w ao n c l) (hs' : Sl .u32 w bo m d l') (hd : Canon 4294967296 l) (hd' : Canon 4294967296 l')
    (hn : n ≤ 536870912) (hm : m ≤ 536870912) (hm1 : m ≠ 1) (hb0 : 0 < val 4294967296 l') :
    Calls Tryz.prog 165 #[.slice ao n c, .slice bo m d] w (RetNat2 .u32 4294967296 w (val 4294967296 l / val 4294967296 l') (val 4294967296 l % val 4294967296 l')) := by
  have hba := bl_len hd n hs.len
  have hbb := bl_len hd' m hs'.len
  have hav : NatV .u32 4294967296 w (.slice ao n c) (val 4294967296 l) := ⟨_, _, _, _, rfl, hs, hd, rfl⟩
  have HAV := Lib.hid hav; clear hav
  have HS := Lib.hid hs; clear hs
  have HS' := Lib.hid hs'; clear hs'
  have HD := Lib.hid hd; clear hd
  have HD' := Lib.hid hd'; clear hd'
  generalize hA : val 4294967296 l = A at *
  generalize hb : val 4294967296 l' = b at *
  have HA := Lib.hid hA; clear hA
  have HBv := Lib.hid hb; clear hb
  have hm1' : ((m : Int) == 1) = false := by rw [beq_eq_false_iff_ne]; omega
  have HM := Lib.hid hm1; clear hm1
  obtain ⟨i0, hi, hz0, hz1, hz2⟩ := info_parts info_u32
  by_cases hlt : bl A < bl b
  · have hAb := lt_of_bl hlt
    go_enter Tryz.func165, Tryz.ntmps165
    go_wp2_with fail
    refine (r_Bits_calls _ _ _ _ _ HS.out HD.out (by omega)).mono ?_
    rintro e w1 ⟨rfl, rfl⟩
    rw [HA.out]
    go_wp2_with fail
    refine (r_Bits_calls _ _ _ _ _ HS'.out HD'.out (by omega)).mono ?_
    rintro e w1 ⟨rfl, rfl⟩
    rw [HBv.out]
    go_wp2
    go_ret2
    refine ⟨_, _, rfl, ?_, ?_, (Below.refl _ _).alloc (Nat.le_refl _) _⟩
    · exact ⟨_, _, _, [], rfl, Sl.empty _ _ _ _ (by omega) (fun e => by cases e), Canon.nil _, by rw [Nat.div_eq_of_lt hAb]; rfl⟩
    · rw [Nat.mod_eq_of_lt hAb]
      exact HAV.out.mono ((Below.refl _ _).alloc (Nat.le_refl _) _)
  · obtain ⟨s, hs⟩ : ∃ s, bl A = s + bl b := ⟨bl A - bl b, by omega⟩
    have hq := quo_start hb0 s hs
    have HQ := Lib.hid hq; clear hq
    rw [hs] at hlt hba
    go_enter Tryz.func165, Tryz.ntmps165
    go_wp2_with fail
    refine (r_Bits_calls _ _ _ _ _ HS.out HD.out (by omega)).mono ?_
    rintro e w1 ⟨rfl, rfl⟩
    rw [HA.out, hs]
    clear hs
    go_wp2_with fail
    refine (r_Bits_calls _ _ _ _ _ HS'.out HD'.out (by omega)).mono ?_
    rintro e w1 ⟨rfl, rfl⟩
    rw [HBv.out]
    have hsub : (s : Int) + ((bl b : Nat) : Int) - ((bl b : Nat) : Int) = (s : Int) := by omega
    go_wp2_with (at_make; refine wpList_make_u _ rfl _ _ 36 rfl 62 i0 .u32 Tryz.underlying36 hi hz0 hz1 _ _ _ _ (s / 32 + 1) (s / 32 + 1) rfl rfl ?c1 ?c2 (Nat.le_refl _) ?c3 ?c4 ?_)
    case c1 => omega
    case c2 => omega
    case c3 => rw [hz2]; omega
    case c4 => omega
    go_wp2_with fail
    have hbw : Below w.heap.size w (w.alloc (.cells (U .u32 (List.replicate (s / 32 + 1) 0)) 62)) := (Below.refl _ _).alloc (Nat.le_refl _) _
    have hblk0 := Blk.new .u32 62 w (List.replicate (s / 32 + 1) 0)
    refine (r_Shifted_calls _ _ _ _ _ _ (HS'.out.mono hbw) HD'.out.1 (by omega) (by omega) (by omega)).mono ?_
    rintro e w1 ⟨v1, rfl, hv1, hb1, hf1⟩
    have haw1 : Away w.heap.size v1 := hf1.away (by simp)
    have haw0 : Away w.heap.size (.slice ao n c) := HS.out.away _ (Nat.le_refl _)
    have HAW1 := Lib.hid haw1
    have HAW0 := Lib.hid haw0
    clear haw0 haw1 hf1
    rw [HBv.out, Int.toNat_natCast] at hv1
    have hblk := hblk0.below hb1
    have hbel := hbw.trans (hb1.mono (by simp))
    have HAV1 := Lib.hid (HAV.out.mono hbel)
    have HV1 := Lib.hid hv1
    have HBLK := Lib.hid hblk
    have HBEL := Lib.hid hbel
    clear hbw hblk0 hv1 hb1 hblk hbel hsub
    go_wp2
    go_loopw [0, 10, 11] (fun av dv iv wr => QuoInv w A b s av dv iv wr) (fun _ _ iv _ => (intOf iv + 1).toNat)
    case atStart =>
      refine ⟨s + 1, A, _, Nat.le_refl _, by go_num, HAV1.out, ?_, HBLK.out, by simp, Digs.zeros (by omega) _, by simp [val_zeros], HQ.out, by simp [val_zeros], Nat.le_refl _, HBEL.out, HAW0.out, fun _ => HAW1.out⟩
      intro j hj
      obtain rfl : s = j := by omega
      exact HV1.out
    case round =>
      obtain ⟨k, aA, ql, hk, rfl, hav, hdv, hblk, hql, hdq, hval, hlt, hmod, haA, hbel, hawa, hawd⟩ := hrel
      have HAWA := Lib.hid hawa
      have HAWD := Lib.hid hawd
      clear hawa hawd
      have HAVr := Lib.hid hav
      have HDVr := Lib.hid hdv
      have HBLKr := Lib.hid hblk
      have HQL := Lib.hid hql
      have HDQ := Lib.hid hdq
      have HVAL := Lib.hid hval
      have HLT := Lib.hid hlt
      have HMOD := Lib.hid hmod
      have HBELr := Lib.hid hbel
      clear hav hdv hblk hql hdq hval hlt hmod hbel HAV1 HV1 HBLK HBEL
      cases k with
      | zero =>
        rw [show ((0 : Nat) : Int) - 1 = -1 from rfl]
        go_wp2_with fail
        refine (r_cut_calls 4294967296 _ _ _ ql _ (by have := HBLKr.out.sl (by have := HQL.out; omega); rw [HQL.out] at this; exact this) HDQ.out).mono ?_
        rintro e w' ⟨j, hj, hcj, hvj, rfl, rfl⟩
        go_wp2
        go_ret2
        have hfin := quo_end HVAL.out (by have := HLT.out; simpa using this)
        refine ⟨_, _, rfl, ⟨_, _, _, _, rfl, (by have := HBLKr.out.sl (by have := HQL.out; omega); rw [HQL.out] at this; exact this.take j hj), hcj, ?_⟩, ?_, HBELr.out⟩
        · rw [hvj, hfin.1]
        · rw [← hfin.2]; exact HAVr.out
      | succ k =>
        rw [show ((k + 1 : Nat) : Int) - 1 = (k : Int) from by omega]
        obtain ⟨a1, n1, c1, l1, rfl, hs1, hc1, hv1⟩ := HAVr.out
        obtain ⟨a2, n2, c2, l2, rfl, hs2, hc2, hv2⟩ := HDVr.out k rfl
        have hn1 : n1 ≤ n := by
          have h1 := hc1.length_le_of (by omega) HD.out (by rw [hv1, HA.out]; exact haA)
          rw [hs1.len, HS.out.len] at h1; exact h1
        have hn2 : n2 ≤ 1099511627776 := by
          have h1 : val 4294967296 l2 < 4294967296 ^ (m + n + 1) := by
            rw [hv2]
            have b1 := val_lt (by omega) HD'.out.1
            rw [HBv.out, HS'.out.len] at b1
            have b2 : 2 ^ k ≤ 2 ^ (32 * (n + 1)) := Nat.pow_le_pow_right (by omega) (by omega)
            rw [Nat.pow_mul, show (2 : Nat) ^ 32 = 4294967296 from rfl] at b2
            have b3 : b * 2 ^ k ≤ b * 4294967296 ^ (n + 1) := Nat.mul_le_mul_left _ b2
            have b4 : (b + 1) * 4294967296 ^ (n + 1) ≤ 4294967296 ^ m * 4294967296 ^ (n + 1) := Nat.mul_le_mul_right _ b1
            rw [← Nat.pow_add, show m + (n + 1) = m + n + 1 from rfl, Nat.add_mul] at b4
            have b5 := Nat.pow_pos (n := n + 1) (show 0 < 4294967296 by omega)
            omega
          have h2 := hc2.length_le (by omega) h1
          rw [hs2.len] at h2
          omega
        have HS1 := Lib.hid hs1
        have HS2 := Lib.hid hs2
        have HC1 := Lib.hid hc1
        have HC2 := Lib.hid hc2
        have HV1 := Lib.hid hv1
        have HV2 := Lib.hid hv2
        have HAA := Lib.hid haA
        clear hs1 hs2 hc1 hc2 hv1 hv2 haA
        by_cases hge : b * 2 ^ k ≤ aA
        · have hord := ordN_ge hge
          have hstep := quo_step rfl HVAL.out HLT.out HMOD.out hge
          have HSTEP := Lib.hid hstep
          have HGE := Lib.hid hge
          clear hstep hge
          go_wp2_with fail
          refine (r_Order_calls _ _ _ _ _ _ _ _ _ HS1.out HS2.out HC1.out HC2.out).mono ?_
          rintro e w' ⟨q, rfl, rfl⟩
          rw [HV1.out, HV2.out]
          go_wp2_with fail
          refine (r_Difference_calls _ _ _ _ _ _ _ _ _ (HS1.out.mono (belowN (Below.refl _ _) q)) (HS2.out.mono (belowN (Below.refl _ _) q)) HC1.out HC2.out (by rw [HV1.out, HV2.out]; exact HGE.out) (by omega)).mono ?_
          rintro e w5 ⟨v5, rfl, hv5, hb5, hf5⟩
          rw [HV1.out, HV2.out] at hv5
          have hblk5 : Blk .u32 62 w5 w.heap.size ql := (HBLKr.out.drewN q).below hb5
          have hk32 : k / 32 < s / 32 + 1 := by omega
          have hcell5 := hblk5.cell (j := k / 32) (by rw [HQL.out]; omega)
          have hfree5 := hblk5.free (k / 32)
          have haw5 : Away w.heap.size v5 := hf5.away (by have := HBELr.out.size; have := HBLKr.out.lt; exact this)
          have HAW5 := Lib.hid haw5
          have HV5 := Lib.hid hv5
          have HB5 := Lib.hid hb5
          have HBLK5 := Lib.hid hblk5
          clear hv5 hb5 hblk5 haw5 hf5
          have hroom := bit_room 32 (by omega) (l := ql) HDQ.out k (by rw [HQL.out]; exact hk32) HMOD.out
          have hwr : ((ql[k / 32]?.getD 0 : Nat) : Int) + 2 ^ (k % 32) = ((ql[k / 32]?.getD 0 + 2 ^ (k % 32) : Nat) : Int) := by simp
          have hset := HBLK5.out.set (k / 32) (ql[k / 32]?.getD 0 + 2 ^ (k % 32))
          have hvs := val_set_bit 32 ql k (by rw [HQL.out]; exact hk32)
          have hdset := HDQ.out.set (k / 32) (ql[k / 32]?.getD 0 + 2 ^ (k % 32)) hroom
          have HSET := Lib.hid hset
          have HVS := Lib.hid hvs
          have HDS := Lib.hid hdset
          have HWR := Lib.hid hwr
          have HROOM := Lib.hid hroom
          clear hset hvs hdset hwr hroom
          go_wp2_with fail
          have hmodw : (((ql[k / 32]?.getD 0 : Nat) : Int) + 2 ^ (k % 32)) % 4294967296 = ((ql[k / 32]?.getD 0 + 2 ^ (k % 32) : Nat) : Int) := by
            rw [HWR.out]
            have := HROOM.out
            rw [show (2 : Nat) ^ 32 = 4294967296 from rfl] at this
            generalize ql[k / 32]?.getD 0 + 2 ^ (k % 32) = z at *
            omega
          rw [hmodw]
          have hd5 : Sl .u32 (w5.setCell ⟨w.heap.size, k / 32, none⟩ (.int .u32 ((ql[k / 32]?.getD 0 + 2 ^ (k % 32) : Nat) : Int))) a2 n2 c2 l2 := ((HS2.out.mono (belowN (Below.refl _ _) q)).mono HB5.out).store (HAWD.out (by omega)) _ _
          refine (r_halved_calls _ _ _ _ _ hd5 HC2.out.1 hn2).mono ?_
          rintro e w6 ⟨v6, rfl, hv6, hb6, hf6⟩
          rw [HV2.out] at hv6
          have haw6 : Away w.heap.size v6 := hf6.away (by have := HBLK5.out.lt; simpa using this)
          have hav6 : NatV .u32 4294967296 w6 v5 (aA - b * 2 ^ k) := (HV5.out.store HAW5.out _ _).mono hb6
          have hblk6 := HSET.out.below hb6
          have hbel6 : Below w.heap.size w w6 := ((HBELr.out.trans (belowN (Below.refl _ _) q)).trans (HB5.out.mono HBELr.out.size)).setCell (p := ⟨w.heap.size, k / 32, none⟩) (Nat.le_refl _) (.int .u32 ((ql[k / 32]?.getD 0 + 2 ^ (k % 32) : Nat) : Int)) |>.trans (hb6.mono (by have := HBELr.out.size; have := HB5.out.size; simp at *; omega))
          have HAW6 := Lib.hid haw6
          have HAV6 := Lib.hid hav6
          have HBLK6 := Lib.hid hblk6
          have HBEL6 := Lib.hid hbel6
          have HV6 := Lib.hid hv6
          clear haw6 hav6 hblk6 hbel6 hv6 hf6 hb6 hd5 hmodw
          go_wp2
          go_roundw
          case rel =>
            refine ⟨k, aA - b * 2 ^ k, _, by omega, rfl, HAV6.out, ?_, HBLK6.out, by rw [List.length_set]; exact HQL.out, HDS.out, ?_, HSTEP.out.2.1, ?_, by have := HAA.out; omega, HBEL6.out, HAW5.out, fun _ => HAW6.out⟩
            · intro j hj
              subst hj
              rw [← shift_half]
              exact HV6.out
            · rw [show (4294967296 : Nat) = 2 ^ 32 from rfl, HVS.out]; exact HSTEP.out.1
            · rw [show (4294967296 : Nat) = 2 ^ 32 from rfl, HVS.out]; exact HSTEP.out.2.2
          all_goals first | (simp [intOf]; done) | (simp [intOf]; omega)
        · have hord := ordN_lt (show aA < b * 2 ^ k by omega)
          have HGE := Lib.hid hge
          clear hge
          go_wp2_with fail
          refine (r_Order_calls _ _ _ _ _ _ _ _ _ HS1.out HS2.out HC1.out HC2.out).mono ?_
          rintro e w' ⟨q, rfl, rfl⟩
          rw [HV1.out, HV2.out]
          go_wp2_with fail
          refine (r_halved_calls _ _ _ _ _ (HS2.out.mono (belowN (Below.refl _ _) q)) HC2.out.1 hn2).mono ?_
          rintro e w6 ⟨v6, rfl, hv6, hb6, hf6⟩
          rw [HV2.out] at hv6
          have haw6 : Away w.heap.size v6 := hf6.away (by have := HBLKr.out.lt; simpa using this)
          have hs6 : Sl .u32 w6 a1 n1 c1 l1 := (HS1.out.mono (belowN (Below.refl _ _) q)).mono hb6
          have hblk6 : Blk .u32 62 w6 w.heap.size ql := (HBLKr.out.drewN q).below hb6
          have hbel6 : Below w.heap.size w w6 := (HBELr.out.trans (belowN (Below.refl _ _) q)).trans (hb6.mono HBELr.out.size)
          have HAW6 := Lib.hid haw6
          have HS6 := Lib.hid hs6
          have HBLK6 := Lib.hid hblk6
          have HBEL6 := Lib.hid hbel6
          have HV6 := Lib.hid hv6
          clear haw6 hs6 hblk6 hbel6 hv6 hf6 hb6
          go_wp2
          go_roundw
          case rel =>
            refine ⟨k, aA, _, by omega, rfl, ⟨_, _, _, _, rfl, HS6.out, HC1.out, HV1.out⟩, ?_, HBLK6.out, HQL.out, HDQ.out, HVAL.out, by have := HGE.out; omega, quo_skip HMOD.out, HAA.out, HBEL6.out, HAWA.out, fun _ => HAW6.out⟩
            intro j hj
            subst hj
            rw [← shift_half]
            exact HV6.out
          all_goals first | (simp [intOf]; done) | (simp [intOf]; omega)
theorem r_Quotient_calls (ao bo : Option Addr) (n c m d : Nat) (l l' : List Nat) (w : World) (hs : Sl .u32 w ao n c l) (hs' : Sl .u32 w bo m d l') (hd : Canon 4294967296 l) (hd' : Canon 4294967296 l')
    (hn : n ≤ 536870912) (hm : m ≤ 536870912) (hb0 : 0 < val 4294967296 l') :
    Calls Tryz.prog 165 #[.slice ao n c, .slice bo m d] w (RetNat2 .u32 4294967296 w (val 4294967296 l / val 4294967296 l') (val 4294967296 l % val 4294967296 l')) := by
  by_cases h : m = 1
  · subst h
    exact r_Quotient_one _ _ _ _ _ _ _ _ hs hs' hd.1 hd' hn
  · exact r_Quotient_many _ _ _ _ _ _ _ _ _ hs hs' hd hd' hn hm h hb0
def NatS (k : IntKind) (B K : Nat) (w : World) (v : Value) (x : Nat) : Prop := ∃ ao n c l, v = .slice ao n c ∧ Sl k w ao n c l ∧ Canon B l ∧ val B l = x ∧ n ≤ K
theorem r_Divisor_calls (ao bo : Option Addr) (n c m d : Nat) (l l' : List Nat) (w : World) (hs : Sl .u32 w ao n c l) (hs' : Sl .u32 w bo m d l') (hd : Canon 4294967296 l) (hd' : Canon 4294967296 l')
    (hn : n ≤ 536870912) (hm : m ≤ 536870912) :
    Calls Tryz.prog 164 #[.slice ao n c, .slice bo m d] w fun e w' => ∃ v, e = .returned v ∧ NatV .u32 4294967296 w' v (Nat.gcd (val 4294967296 l) (val 4294967296 l')) ∧ Below w.heap.size w w' := by
  have ha : NatS .u32 4294967296 536870912 w (.slice ao n c) (val 4294967296 l) := ⟨_, _, _, _, rfl, hs, hd, rfl, hn⟩
  have hb : NatS .u32 4294967296 536870912 w (.slice bo m d) (val 4294967296 l') := ⟨_, _, _, _, rfl, hs', hd', rfl, hm⟩
  clear hs hs' hd hd' hn hm
  generalize hG : Nat.gcd (val 4294967296 l) (val 4294967296 l') = G
  generalize val 4294967296 l = A at *
  generalize val 4294967296 l' = C at *
  have HA := Lib.hid ha
  have HB := Lib.hid hb
  have HG := Lib.hid hG
  clear ha hb hG
  go_enter Tryz.func164, Tryz.ntmps164
  go_wp2
  go_loopg [0, 1] C (fun k av bv wr => ∃ (x y : Nat), y ≤ k ∧ Nat.gcd x y = G ∧ NatS .u32 4294967296 536870912 wr av x ∧ NatS .u32 4294967296 536870912 wr bv y ∧ Below w.heap.size w wr)
  case atStart => exact ⟨A, C, Nat.le_refl _, HG.out, HA.out, HB.out, Below.refl _ _⟩
  case round =>
    obtain ⟨x, y, hyk, hg, ⟨a1, n1, c1, l1, rfl, hs1, hc1, hv1, hn1⟩, ⟨a2, n2, c2, l2, rfl, hs2, hc2, hv2, hn2⟩, hbel⟩ := hrel
    have HS1 := Lib.hid hs1
    have HS2 := Lib.hid hs2
    have HC1 := Lib.hid hc1
    have HC2 := Lib.hid hc2
    have HV1 := Lib.hid hv1
    have HV2 := Lib.hid hv2
    have HBE := Lib.hid hbel
    have HGG := Lib.hid hg
    clear hs1 hs2 hc1 hc2 hv1 hv2 hbel hg
    by_cases h0 : n2 = 0
    · subst h0
      go_wp2
      go_ret
      have : l2 = [] := List.length_eq_zero_iff.1 HS2.out.len
      have h2 := HV2.out
      rw [this] at h2
      refine ⟨_, rfl, ⟨_, _, _, _, rfl, HS1.out, HC1.out, ?_⟩, HBE.out⟩
      rw [HV1.out, ← HGG.out, ← h2]
      simp [val]
    · have hpos : 0 < y := by have := HC2.out.pos (by omega) (by rw [HS2.out.len]; omega); rw [HV2.out] at this; exact this
      have hlt := Nat.mod_lt x hpos
      go_wp2_with fail
      refine (r_Quotient_calls _ _ _ _ _ _ _ _ _ HS1.out HS2.out HC1.out HC2.out hn1 hn2 (by rw [HV2.out]; exact hpos)).mono ?_
      rintro e w1 ⟨v1, v2, rfl, _, ⟨a3, n3, c3, l3, rfl, hs3, hc3, hv3⟩, hb⟩
      rw [HV1.out, HV2.out] at hv3
      have hn3 : n3 ≤ 536870912 := by
        have := hc3.length_le_of (by omega) HC2.out (by rw [hv3, HV2.out]; omega)
        rw [hs3.len, HS2.out.len] at this
        omega
      have HS3 := Lib.hid hs3
      have HC3 := Lib.hid hc3
      have HV3 := Lib.hid hv3
      have HB3 := Lib.hid hb
      clear hs3 hc3 hv3 hb
      go_wp2
      go_roundg (x % y)
      case measure => omega
      case rel =>
        refine ⟨y, x % y, Nat.le_refl _, ?_, ⟨_, _, _, _, rfl, HS2.out.mono HB3.out, HC2.out, HV2.out, hn2⟩, ⟨_, _, _, _, rfl, HS3.out, HC3.out, HV3.out, hn3⟩, HBE.out.trans (HB3.out.mono HBE.out.size)⟩
        rw [← HGG.out, Nat.gcd_comm x y, Nat.gcd_rec y x, Nat.gcd_comm]
end Go.Proofs.YtkfekkhhfpkfaaaGreat
namespace Go.Proofs.YtkfekkhhfpkfaaaGreat
open Go.RowKit Dg
def strV (l : List UInt8) : Value := .string ⟨l.toArray⟩
theorem r_Digits_calls (ao : Option Addr) (n c : Nat) (l : List Nat) (w : World) (hs : Sl .u32 w ao n c l) (hd : Canon 4294967296 l) (hn : n ≤ 536870912) :
    Calls Tryz.prog 122 #[.slice ao n c] w fun e w' => e = .returned (strV (decS (val 4294967296 l))) ∧ Below w.heap.size w w' := by
  by_cases h0 : n = 0
  · subst h0
    have : l = [] := List.length_eq_zero_iff.1 hs.len
    subst this
    go_enter Tryz.func122, Tryz.ntmps122
    go_wp2
    go_ret
    exact ⟨rfl, Below.refl _ _⟩
  · have hpos : 0 < val 4294967296 l := hd.pos (by omega) (by rw [hs.len]; omega)
    have hdec : decS (val 4294967296 l) = dgs (val 4294967296 l) := by unfold decS; rw [if_neg (by omega)]
    rw [hdec]; clear hdec
    have ha : NatS .u32 4294967296 536870912 w (.slice ao n c) (val 4294967296 l) := ⟨_, _, _, _, rfl, hs, hd, rfl, hn⟩
    have hlenA : (dgs (val 4294967296 l)).length ≤ 17179869184 := by
      have h1 := dgs_length (val 4294967296 l)
      have h2 := bl_len hd n hs.len
      omega
    generalize val 4294967296 l = A at *
    have HLA := Lib.hid hlenA
    clear hlenA
    have HA := Lib.hid ha
    clear ha hs hd
    have h0' : ((n : Int) == 0) = false := by rw [beq_eq_false_iff_ne]; omega
    go_enter Tryz.func122, Tryz.ntmps122
    go_wp2
    go_loopg [0, 3] A (fun k av sv wr => ∃ (x : Nat) (sl : List UInt8), x ≤ k ∧ NatS .u32 4294967296 536870912 wr av x ∧ sv = .string ⟨sl.toArray⟩ ∧ dgs A = dgs x ++ sl ∧ Below w.heap.size w wr)
    case atStart => exact ⟨A, [], Nat.le_refl _, HA.out, rfl, by simp, Below.refl _ _⟩
    case round =>
      obtain ⟨x, sl, hxk, ⟨a1, n1, c1, l1, rfl, hs1, hc1, hv1, hn1⟩, rfl, hdg, hbel⟩ := hrel
      have HS1 := Lib.hid hs1
      have HC1 := Lib.hid hc1
      have HV1 := Lib.hid hv1
      have HDG := Lib.hid hdg
      have HBE := Lib.hid hbel
      clear hs1 hc1 hv1 hdg hbel
      by_cases hn0 : n1 = 0
      · subst hn0
        go_wp2
        go_ret
        have : l1 = [] := List.length_eq_zero_iff.1 HS1.out.len
        have h2 := HV1.out
        rw [this] at h2
        have h3 : x = 0 := h2.symm
        have h4 := HDG.out
        rw [h3, dgs_zero, List.nil_append] at h4
        refine ⟨?_, HBE.out⟩
        rw [h4]; rfl
      · have hpos : 0 < x := by have := HC1.out.pos (by omega) (by rw [HS1.out.len]; omega); rw [HV1.out] at this; exact this
        go_wp2_with fail
        refine (r_byDigit_calls _ _ _ _ _ _ HS1.out HC1.out.1 (by omega) (by omega) (by omega)).mono ?_
        rintro e w1 ⟨v1, rfl, ⟨a2, n2, c2, l2, rfl, hs2, hc2, hv2⟩, hb⟩
        rw [HV1.out, show Int.toNat 1000000000 = 1000000000 from rfl] at hv2 ⊢
        have hr := Nat.mod_lt x (show 0 < 1000000000 by omega)
        have hx := Nat.div_add_mod x 1000000000
        generalize x / 1000000000 = q at *
        generalize x % 1000000000 = r at *
        have HS2 := Lib.hid hs2
        have HC2 := Lib.hid hc2
        have HV2 := Lib.hid hv2
        have HB2 := Lib.hid hb
        have HX := Lib.hid hx
        clear hs2 hc2 hv2 hb hx
        go_wp2
        go_loopg [3, 5, 6] 9 (fun j sv rv kv wr => ∃ k : Nat, k + j = 9 ∧ kv = .int .i64 k ∧ rv = .int .u32 ((r / 10 ^ k : Nat) : Int) ∧ sv = .string ⟨(pad k r ++ sl).toArray⟩ ∧ (q = 0 → dgs r = dgs (r / 10 ^ k) ++ pad k r) ∧ wr = w1)
        case atStart => exact ⟨0, by omega, rfl, by simp, rfl, by simp [pad], rfl⟩
        case round =>
          obtain ⟨k, hk, rfl, rfl, rfl, hqz, rfl⟩ := hrel
          have hrk : r / 10 ^ k ≤ r := Nat.div_le_self _ _
          have hrs : r / 10 ^ (k + 1) = r / 10 ^ k / 10 := by rw [Nat.pow_succ, Nat.div_div_eq_div_mul]
          generalize hR : r / 10 ^ k = R at *
          have HR := Lib.hid hR
          have HRS := Lib.hid hrs
          have HQZ := Lib.hid hqz
          clear hR hrs hqz
          have hsl : sl.length ≤ 17179869184 := by
            have h1 := HDG.out
            have h2 := HLA.out
            rw [h1, List.length_append] at h2
            omega
          have hd10 : R % 10 < 10 := Nat.mod_lt _ (by omega)
          have hcat : ∀ W : World, (Op.stringOp .add ((ByteArray.mk #[48, 49, 50, 51, 52, 53, 54, 55, 56, 57]).extract (R % 10) (R % 10 + 1)) ⟨(pad k r ++ sl).toArray⟩).run Tryz.prog W = .ok (.string ⟨(pad (k + 1) r ++ sl).toArray⟩) W := by
            intro W
            rw [digit_of _ hd10, run_string_add_sum, bytes_append]
            · rw [pad_succ_front, HR.out]; simp
            · simp only [ByteArray.size, List.size_toArray, List.length_append, pad_length, List.length_singleton]; omega
          have HNEXT : Hid (q = 0 → 0 < R → dgs r = dgs (r / 10 ^ (k + 1)) ++ pad (k + 1) r) := fun hq0 hR0 => by
            rw [HRS.out, HQZ.out hq0, dgs_succ (by omega), pad_succ_front, HR.out, List.append_assoc]; rfl
          clear hsl
          by_cases hgo : k < 9 ∧ (0 < n2 ∨ 0 < R)
          · obtain ⟨hk9, hor⟩ := hgo
            rcases Nat.eq_zero_or_pos n2 with hz | hp
            · have hR0 : 0 < R := by omega
              subst hz
              clear hor
              go_wp2
              go_roundg (gk - 1)
              case measure => omega
              case rel => exact ⟨k + 1, by omega, by go_num, by rw [HRS.out]; simp, rfl, fun h => HNEXT.out h hR0, rfl⟩
            · clear hor
              have hq0 : q ≠ 0 := by
                have := HC2.out.pos (by omega) (by rw [HS2.out.len]; exact hp)
                rw [HV2.out] at this; omega
              have HQ0 := Lib.hid hq0
              clear hq0
              go_wp2
              go_roundg (gk - 1)
              case measure => omega
              case rel => exact ⟨k + 1, by omega, by go_num, by rw [HRS.out]; simp, rfl, fun h => absurd h HQ0.out, rfl⟩
          · have hend : dgs x = dgs q ++ pad k r := by
              rcases Nat.eq_zero_or_pos n2 with hz | hp
              · have hq0 : q = 0 := by
                  have h1 : l2 = [] := List.length_eq_zero_iff.1 (by rw [HS2.out.len]; exact hz)
                  have h2 := HV2.out
                  rw [h1] at h2
                  exact h2.symm
                have hx := HX.out
                rw [hq0] at hx
                have hR0 : R = 0 := by
                  by_cases hk9 : k < 9
                  · omega
                  · have hkk : k = 9 := by omega
                    have := HR.out
                    rw [hkk] at this
                    rw [← this]
                    exact Nat.div_eq_of_lt hr
                have h3 := HQZ.out hq0
                rw [hR0, dgs_zero] at h3
                rw [hq0, dgs_zero, ← h3, show x = r from by omega]
              · have hkk : k = 9 := by omega
                have hq0 : 0 < q := by
                  have := HC2.out.pos (by omega) (by rw [HS2.out.len]; exact hp)
                  rwa [HV2.out] at this
                rw [hkk, ← dgs_append 9 hq0 hr]
                congr 1
                have := HX.out
                omega
            have hqx : q < x := by
              have := HX.out
              omega
            have hn2 : n2 ≤ 536870912 := by
              have := HC2.out.length_le_of (by omega) HC1.out (by rw [HV2.out, HV1.out]; omega)
              rw [HS2.out.len, HS1.out.len] at this
              omega
            have HEND := Lib.hid hend
            clear hend hcat
            rcases Nat.eq_zero_or_pos n2 with hz | hp
            · have hor : 9 ≤ k ∨ (k < 9 ∧ R = 0) := by omega
              subst hz
              rcases hor with h9 | ⟨h9, h9'⟩
              all_goals
                try subst h9'
                go_wp2
                go_roundg q
                case measure => omega
                case rel => exact ⟨q, pad k r ++ sl, Nat.le_refl _, ⟨_, _, _, _, rfl, HS2.out, HC2.out, HV2.out, hn2⟩, rfl, by rw [HDG.out, HEND.out, List.append_assoc], HBE.out.trans (HB2.out.mono HBE.out.size)⟩
            · have h9 : 9 ≤ k := by omega
              go_wp2
              go_roundg q
              case measure => omega
              case rel => exact ⟨q, pad k r ++ sl, Nat.le_refl _, ⟨_, _, _, _, rfl, HS2.out, HC2.out, HV2.out, hn2⟩, rfl, by rw [HDG.out, HEND.out, List.append_assoc], HBE.out.trans (HB2.out.mono HBE.out.size)⟩
end Go.Proofs.YtkfekkhhfpkfaaaGreat
