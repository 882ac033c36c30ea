/-
  The contracts of the reference's natural numbers, third part: halved, Bits, Product, Shifted.
-/
import Derived.Test.YtbnomdlojmgigaaGreatPkA5Q
import Derived.Test.YtbnomdlojmgigaaGreatPkA1Q
import Derived.Deep.QuietTactic
import Derived.BigQuiet
set_option linter.unusedSimpArgs false
set_option linter.unusedVariables false
set_option maxRecDepth 100000
set_option maxHeartbeats 1000000
namespace Go.Proofs.YtbnomdlojmgigaaGreat
open Go.RowKit Dg
theorem r_halved_calls (ao : Option Addr) (n c : Nat) (l : List Nat) (w : World) (hs : Sl .u32 w ao n c l) (hd : Digs 4294967296 l) (hn : n ≤ 1099511627776) :
    Calls Tryz.prog 150 #[.slice ao n c] w (RetNat .u32 4294967296 w (val 4294967296 l / 2)) := by
  have HS := Lib.hid hs; clear hs
  have HD := Lib.hid hd; clear hd
  obtain ⟨i0, hi, hz0, hz1, hz2⟩ := info_parts info_u32
  go_enter Tryz.func150, Tryz.ntmps150
  go_wp2_with (at_make; refine wpList_make_u _ rfl _ _ 51 rfl 150 i0 .u32 Tryz.underlying51 hi hz0 hz1 _ _ _ _ n n rfl rfl rfl rfl (Nat.le_refl _) ?c3 ?c4 ?_)
  case c3 => rw [hz2]; omega
  case c4 => omega
  go_loopw [4] (fun iv wr => ∃ (k : Nat) (ol : List Nat), k ≤ n ∧ iv = .int .i64 k ∧ Blk .u32 150 wr w.heap.size ol ∧ ol.length = n ∧ Digs 4294967296 ol ∧
      2 * val (2 * 2147483648) (ol.take k) + l[0]?.getD 0 % 2 = val (2 * 2147483648) (l.take k) + l[k]?.getD 0 % 2 * (2 * 2147483648) ^ k ∧ Below w.heap.size w wr) (fun iv _ => n - (intOf iv).toNat)
  case atStart => exact ⟨0, _, by omega, rfl, Blk.new .u32 _ w _, by simp, Digs.zeros (by omega) _, by simp [val], (Below.refl _ _).alloc (Nat.le_refl _) _⟩
  case round =>
    obtain ⟨k, ol, hk, rfl, hblk, hol, hdo, hval, hbel⟩ := hrel
    have e1 := (HS.out).mono hbel
    have d1 := HD.out.get (by omega) k
    have d2 := HD.out.get (by omega) (k + 1)
    have HB := Lib.hid hblk
    have HO := Lib.hid hol
    have HV := Lib.hid hval
    have HDO := Lib.hid hdo
    have HBE := Lib.hid hbel
    have HE1 := Lib.hid e1
    have z2 : n ≤ k + 1 → l[k + 1]?.getD 0 = 0 := fun h => by rw [List.getElem?_eq_none (by have := HS.out.len; omega)]; rfl
    have Z2 := Lib.hid z2
    clear hblk hol hval hdo hbel e1 z2
    by_cases hkL : k < n
    · have hcell := HB.out.cell (j := k) (by have := HO.out; omega)
      have hfree := HB.out.free k
      have fin : ∀ (wf : World) (x : Nat), x = l[k]?.getD 0 / 2 + l[k + 1]?.getD 0 % 2 * 2147483648 → x < 4294967296 → Blk .u32 150 wf w.heap.size (ol.set k x) → Below w.heap.size w wf → ∃ (k' : Nat) (ol' : List Nat), k' ≤ n ∧ Value.int .i64 ((k : Int) + 1) = .int .i64 k' ∧
            Blk .u32 150 wf w.heap.size ol' ∧ ol'.length = n ∧ Digs 4294967296 ol' ∧
            2 * val (2 * 2147483648) (ol'.take k') + l[0]?.getD 0 % 2 = val (2 * 2147483648) (l.take k') + l[k']?.getD 0 % 2 * (2 * 2147483648) ^ k' ∧ Below w.heap.size w wf := by
        rintro wf x rfl hx hb hbe
        exact ⟨k + 1, _, by omega, by go_num, hb, by rw [List.length_set]; exact HO.out, HDO.out.set _ _ hx, half_step _ _ _ _ (by rw [HO.out]; exact hkL) HV.out, hbe⟩
      have FIN := Lib.hid fin
      clear fin
      obtain ⟨b1, o1, rfl, hc⟩ := HE1.out.all (by omega)
      have hc1 := hc k hkL
      have hc2 : k + 1 < n → wr.cell? ⟨b1, o1 + (k + 1), none⟩ = some (.int .u32 ((l[k + 1]?.getD 0 : Nat) : Int)) := fun h => hc (k + 1) h
      clear hc
      have hset := HB.out.set k (l[k]?.getD 0 / 2)
      have HSET := Lib.hid hset
      clear hset
      have hlt : b1 < w.heap.size := HS.out.lt (by omega)
      by_cases h2 : k + 1 < n
      · have hc2' := hc2 h2
        clear hc2
        by_cases h3 : l[k + 1]?.getD 0 % 2 = 1
        · have h3' : (((l[k + 1]?.getD 0 : Nat) : Int) % 2 == 1) = true := by rw [beq_iff_eq]; omega
          have H3 := Lib.hid h3
          clear h3
          go_wp2
          go_roundw
          case rel =>
            refine FIN.out _ (l[k]?.getD 0 / 2 + 2147483648) (by rw [H3.out]) (by omega) ?_ ((HBE.out.setCell (Nat.le_refl _) _).setCell (Nat.le_refl _) _)
            have := HSET.out.set k (l[k]?.getD 0 / 2 + 2147483648)
            rw [List.set_set] at this
            simpa using this
          all_goals first | (simp [intOf]; done) | (simp [intOf]; omega)
        · have h3' : (((l[k + 1]?.getD 0 : Nat) : Int) % 2 == 1) = false := by rw [beq_eq_false_iff_ne]; omega
          have H3 := Lib.hid h3
          clear h3
          go_wp2
          go_roundw
          case rel =>
            refine FIN.out _ (l[k]?.getD 0 / 2) (by have := H3.out; omega) (by omega) ?_ (HBE.out.setCell (Nat.le_refl _) _)
            simpa using HSET.out
          all_goals first | (simp [intOf]; done) | (simp [intOf]; omega)
      · clear hc2
        have h2' : n ≤ k + 1 := by omega
        go_wp2
        go_roundw
        case rel =>
          refine FIN.out _ (l[k]?.getD 0 / 2) (by have := Z2.out h2'; omega) (by omega) ?_ (HBE.out.setCell (Nat.le_refl _) _)
          simpa using HSET.out
        all_goals first | (simp [intOf]; done) | (simp [intOf]; omega)
    · go_wp2_with fail
      obtain rfl : k = n := by omega
      refine (r_cut_calls 4294967296 _ _ _ ol _ (by have := HB.out.sl (by have := HO.out; omega); rw [HO.out] at this; exact this) HDO.out).mono ?_
      rintro e w' ⟨j, hj, hcj, hvj, rfl, rfl⟩
      go_wp2
      go_ret
      refine ⟨_, rfl, ⟨_, _, _, _, rfl, (by have := HB.out.sl (by have := HO.out; omega); rw [HO.out] at this; exact this.take j hj), hcj, ?_⟩, HBE.out, Fresh.at _ _ _ _⟩
      rw [hvj]
      have hv := HV.out
      rw [← HO.out] at hv
      exact half_end (by rw [HO.out, HS.out.len]) hv
theorem r_Bits_calls (ao : Option Addr) (n c : Nat) (l : List Nat) (w : World) (hs : Sl .u32 w ao n c l) (hd : Canon 4294967296 l) (hn : n ≤ 1099511627776) :
    Calls Tryz.prog 147 #[.slice ao n c] w fun e w' => e = .returned (.int .i64 (bl (val 4294967296 l))) ∧ w = w' := by
  have HS := Lib.hid hs; clear hs
  have HD := Lib.hid hd; clear hd
  cases n with
  | zero =>
    have : l = [] := List.length_eq_zero_iff.1 HS.out.len
    subst this
    go_enter Tryz.func147, Tryz.ntmps147
    go_wp2
    go_ret
    exact ⟨rfl, rfl⟩
  | succ n =>
    have ht := HD.out.2 (by rw [HS.out.len]; omega)
    rw [HS.out.len, Nat.add_sub_cancel] at ht
    have hbl := bl_val 32 (l := l) HD.out.1 n HS.out.len (by omega)
    rw [show (2 : Nat) ^ 32 = 4294967296 from rfl] at hbl
    obtain ⟨b1, o1, rfl, hc⟩ := HS.out.at (i := n) (by omega)
    have d1 := HD.out.1.get (by omega) n
    generalize l[n]?.getD 0 = t at *
    generalize val 4294967296 l = V at *
    have HBL := Lib.hid hbl; clear hbl
    have hblt : bl t ≤ 32 := bl_le_of_lt d1
    go_enter Tryz.func147, Tryz.ntmps147
    go_wp2
    go_loop [3, 4] (fun nv xv => ∃ (j x : Nat), nv = .int .i64 (32 * (n : Int) + j) ∧ xv = .int .u32 x ∧ x < 4294967296 ∧ j + bl x = bl t) (fun _ xv => (intOf xv).toNat)
    case atStart => exact ⟨0, t, rfl, rfl, d1, by omega⟩
    case round =>
      obtain ⟨j, x, rfl, rfl, hx, hj⟩ := hrel
      have hj' : j ≤ 32 := by omega
      by_cases h0 : x = 0
      · subst h0
        rw [bl_zero] at hj
        have HJ := Lib.hid hj; clear hj
        go_wp2
        go_ret
        refine ⟨?_, rfl⟩
        rw [HBL.out, ← HJ.out]
        congr 2
      · have h0' : 0 < x := by omega
        have hb := bl_half h0'
        have HH := Lib.hid (show (j + 1) + bl (x / 2) = bl t by omega)
        clear hb hj
        go_wp2
        go_round
        case rel => exact ⟨j + 1, x / 2, by go_num, by simp, by omega, HH.out⟩
        all_goals first | (simp [intOf]; done) | (simp [intOf]; omega)
theorem val_bound {B : Nat} (hB : 0 < B) {i m a P : Nat} {l l' : List Nat} (hl : Digs B l) (hl' : Digs B l') (hi : (l.take i).length ≤ i) (hm : l'.length = m) (ha : a < B) (hP : P = val B (l.take i) * val B l') :
    P + a * val B l' * B ^ i < B ^ (i + m + 1) := by
  subst hP
  have h1 := val_lt hB (hl.take i)
  have h2 := val_lt hB hl'
  rw [hm] at h2
  have h3 : B ^ (l.take i).length ≤ B ^ i := Nat.pow_le_pow_right hB hi
  generalize val B (l.take i) = u at *
  generalize val B l' = v at *
  rw [Nat.pow_succ, Nat.pow_add]
  have hu : u < B ^ i := by omega
  generalize B ^ i = I at *
  generalize B ^ m = M at *
  have a1 : u * v ≤ I * v := Nat.mul_le_mul_right _ (by omega)
  have a2 : (a + 1) * v * I ≤ B * v * I := Nat.mul_le_mul_right _ (Nat.mul_le_mul_right _ ha)
  have a3 : B * I * (v + 1) ≤ B * I * M := Nat.mul_le_mul_left _ h2
  have hI : 0 < I := by omega
  have a4 : 0 < B * I := Nat.mul_pos hB hI
  grind
theorem top_small {B : Nat} {ol : List Nat} {j carry T : Nat} (hB : 0 < B) (hj : j < ol.length) (h : val B ol + carry * B ^ j = T) (hT : T < B ^ (j + 1)) : ol[j]?.getD 0 + carry < B := by
  have h1 := val_split B ol j (by omega)
  rw [val_drop_succ _ _ _ hj] at h1
  have hp : 0 < B ^ j := Nat.pow_pos hB
  rw [Nat.pow_succ] at hT
  generalize ol[j]?.getD 0 = o at *
  have : B ^ j * (o + carry) < B ^ j * B := by
    have : B ^ j * o ≤ B ^ j * (o + B * val B (ol.drop (j + 1))) := Nat.mul_le_mul_left _ (by omega)
    rw [Nat.mul_add]
    rw [Nat.mul_comm carry] at h
    omega
  exact Nat.lt_of_mul_lt_mul_left this
theorem r_Product_calls (ao bo : Option Addr) (n c m d : Nat) (l l' : List Nat) (w : World) (hs : Sl .u32 w ao n c l) (hs' : Sl .u32 w bo m d l') (hd : Digs 4294967296 l) (hd' : Digs 4294967296 l')
    (hn : n ≤ 1099511627776) (hm : m ≤ 1099511627776) :
    Calls Tryz.prog 126 #[.slice ao n c, .slice bo m d] w (RetNat .u32 4294967296 w (val 4294967296 l * val 4294967296 l')) := by
  have HS := Lib.hid hs; clear hs
  have HS' := Lib.hid hs'; clear hs'
  have HD := Lib.hid hd; clear hd
  have HD' := Lib.hid hd'; clear hd'
  obtain ⟨i0, hi, hz0, hz1, hz2⟩ := info_parts info_u32
  go_enter Tryz.func126, Tryz.ntmps126
  go_wp2_with (at_make; refine wpList_make_u _ rfl _ _ 51 rfl 150 i0 .u32 Tryz.underlying51 hi hz0 hz1 _ _ _ _ (n + m) (n + m) rfl rfl ?c1 ?c2 (Nat.le_refl _) ?c3 ?c4 ?_)
  case c1 => omega
  case c2 => omega
  case c3 => rw [hz2]; omega
  case c4 => omega
  go_loopw [6] (fun iv wr => ∃ (i : Nat) (ol : List Nat), i ≤ n ∧ iv = .int .i64 i ∧ Blk .u32 150 wr w.heap.size ol ∧ ol.length = n + m ∧ Digs 4294967296 ol ∧
      val 4294967296 ol = val 4294967296 (l.take i) * val 4294967296 l' ∧ Below w.heap.size w wr) (fun iv _ => n - (intOf iv).toNat)
  case atStart => exact ⟨0, _, by omega, rfl, Blk.new .u32 _ w _, by simp, Digs.zeros (by omega) _, by simp [val, val_zeros], (Below.refl _ _).alloc (Nat.le_refl _) _⟩
  case round =>
    obtain ⟨i, ol, hin, rfl, hblk, hol, hdo, hval, hbel⟩ := hrel
    by_cases hiL : i < n
    · obtain ⟨wo, rfl⟩ : ∃ wo : World, wo = wr := ⟨_, rfl⟩
      have hvb := val_bound (i := i) (m := m) (P := val 4294967296 (l.take i) * val 4294967296 l') (by omega) HD.out HD'.out (by rw [List.length_take]; omega) HS'.out.len (HD.out.get (by omega) i) rfl
      have d1 := HD.out.get (by omega) i
      have HB := Lib.hid hblk
      have HO := Lib.hid hol
      have HV := Lib.hid hval
      have HDO := Lib.hid hdo
      have HBE := Lib.hid hbel
      have HVB := Lib.hid hvb
      clear hblk hol hval hdo hbel hvb
      go_wp2
      go_loopw [7, 8] (fun cv kv wr => ∃ (k carry : Nat) (ol : List Nat), k ≤ m + 1 ∧ kv = .int .i64 k ∧ cv = .int .u64 carry ∧ carry < 4294967296 ∧ (k = m + 1 → carry = 0) ∧ Blk .u32 150 wr w.heap.size ol ∧ ol.length = n + m ∧ Digs 4294967296 ol ∧
        val 4294967296 ol + carry * 4294967296 ^ (i + k) = val 4294967296 (l.take i) * val 4294967296 l' + l[i]?.getD 0 * val 4294967296 (l'.take k) * 4294967296 ^ i ∧ Below w.heap.size w wr) (fun _ kv _ => m + 1 - (intOf kv).toNat)
      case atStart => exact ⟨0, 0, ol, by omega, rfl, rfl, by omega, by omega, HB.out, HO.out, HDO.out, by rw [HV.out]; simp [val], HBE.out⟩
      case round =>
        clear HB HO HV HDO HBE
        obtain ⟨k, carry, ol, hk, rfl, rfl, hc0, hc1, hblk, hol, hdo, hval, hbel⟩ := hrel
        have e1 := (HS.out).mono hbel
        have e2 := (HS'.out).mono hbel
        have hlt : 0 < m → ∀ b o, bo = some ⟨b, o, none⟩ → b < w.heap.size := by rintro h b o rfl; exact HS'.out.lt h
        have HLT := Lib.hid hlt
        have HB := Lib.hid hblk
        have HO := Lib.hid hol
        have HV := Lib.hid hval
        have HDO := Lib.hid hdo
        have HBE := Lib.hid hbel
        have HE1 := Lib.hid e1
        have HE2 := Lib.hid e2
        have HC1 := Lib.hid hc1
        clear hblk hol hval hdo hbel e1 e2 hlt hc1
        have d2 := HD'.out.get (by omega) k
        have z2 : m ≤ k → l'[k]?.getD 0 = 0 := fun h => by rw [List.getElem?_eq_none (by have := HS'.out.len; omega)]; rfl
        have Z2 := Lib.hid z2
        clear z2
        have fin : ∀ (wf : World) (x : Nat), i + k < n + m → k < m + 1 → (k = m → x < 4294967296) → x = ol[i + k]?.getD 0 + carry + l[i]?.getD 0 * l'[k]?.getD 0 → x / 4294967296 < 4294967296 → Blk .u32 150 wf w.heap.size (ol.set (i + k) (x % 4294967296)) → Below w.heap.size w wf →
            ∃ (k' carry' : Nat) (ol' : List Nat), k' ≤ m + 1 ∧ Value.int .i64 ((k : Int) + 1) = .int .i64 k' ∧ Value.int .u64 ((x : Int) / 4294967296) = .int .u64 carry' ∧ carry' < 4294967296 ∧ (k' = m + 1 → carry' = 0) ∧ Blk .u32 150 wf w.heap.size ol' ∧ ol'.length = n + m ∧ Digs 4294967296 ol' ∧
            val 4294967296 ol' + carry' * 4294967296 ^ (i + k') = val 4294967296 (l.take i) * val 4294967296 l' + l[i]?.getD 0 * val 4294967296 (l'.take k') * 4294967296 ^ i ∧ Below w.heap.size w wf := by
          intro wf x h1 h2 h3 hx hxb hb hbe
          exact ⟨k + 1, x / 4294967296, _, by omega, by go_num, rfl, hxb, by intro hk'; have := h3 (by omega); omega, hb, by rw [List.length_set]; exact HO.out, HDO.out.set _ _ (Nat.mod_lt _ (by omega)), mul_step _ _ _ _ _ _ _ _ _ (by rw [HO.out]; exact h1) HV.out hx.symm, hbe⟩
        have FIN := Lib.hid fin
        clear fin
        by_cases hkm : k < m
        · have hcell := HB.out.cell (j := i + k) (by have := HO.out; omega)
          have hfree := HB.out.free (i + k)
          have d3 := HDO.out.get (by omega) (i + k)
          have hab : l[i]?.getD 0 * l'[k]?.getD 0 ≤ 4294967295 * 4294967295 := Nat.mul_le_mul (by omega) (by omega)
          have hab' : ((l[i]?.getD 0 : Nat) : Int) * ((l'[k]?.getD 0 : Nat) : Int) ≤ 18446744065119617025 := by
            have : ((l[i]?.getD 0 * l'[k]?.getD 0 : Nat) : Int) ≤ 18446744065119617025 := by omega
            simpa using this
          have hab0 : 0 ≤ ((l[i]?.getD 0 : Nat) : Int) * ((l'[k]?.getD 0 : Nat) : Int) := by
            have : 0 ≤ ((l[i]?.getD 0 * l'[k]?.getD 0 : Nat) : Int) := Int.natCast_nonneg _
            simpa using this
          have HAB := Lib.hid hab
          clear hab
          obtain ⟨b1, o1, rfl, hc1⟩ := HE1.out.at hiL
          obtain ⟨b2, o2, rfl, hc2⟩ := HE2.out.at hkm
          have hq : (ol[i + k]?.getD 0 + carry + l[i]?.getD 0 * l'[k]?.getD 0) / 4294967296 < 4294967296 := by have := HAB.out; omega
          have HQ := Lib.hid hq
          clear hq
          go_wp2
          go_quiet (fail)
          go_wp2
          go_roundw
          case rel => exact FIN.out _ (ol[i + k]?.getD 0 + carry + l[i]?.getD 0 * l'[k]?.getD 0) (by omega) (by omega) (by omega) rfl HQ.out (by have := (HB.out.drewN nq).set (i + k) ((ol[i + k]?.getD 0 + carry + l[i]?.getD 0 * l'[k]?.getD 0) % 4294967296); simpa using this) ((belowN HBE.out nq).setCell (Nat.le_refl _) _)
          all_goals first | (simp [intOf]; done) | (simp [intOf]; omega)
        · by_cases hcz : carry = 0
          · subst hcz
            have h1' : ¬ ((k : Int) < (m : Int)) := by omega
            go_wp2
            go_roundw
            case rel =>
              refine ⟨i + 1, ol, by omega, by go_num, HB.out, HO.out, HDO.out, ?_, HBE.out⟩
              have := HV.out
              rw [val_take_all _ l' k (by have := HS'.out.len; omega), Nat.zero_mul, Nat.add_zero] at this
              rw [this, val_take_succ']
              generalize val 4294967296 (l.take i) = A
              generalize 4294967296 ^ i = Bi
              generalize l[i]?.getD 0 = a
              grind
            all_goals first | (simp [intOf]; done) | (simp [intOf]; omega)
          · have hk' : k = m := by have := HC1.out; omega
            have hkm' : m ≤ k := by omega
            have hcz' : 0 < carry := by omega
            have hcell := HB.out.cell (j := i + k) (by have := HO.out; omega)
            have hfree := HB.out.free (i + k)
            have d3 := HDO.out.get (by omega) (i + k)
            have hik : i + k < n + m := by omega
            have hsm : ol[i + k]?.getD 0 + carry < 4294967296 := by
              subst hk'
              exact top_small (by omega) (by rw [HO.out]; exact hik) (by have := HV.out; rw [val_take_all _ l' k (by have := HS'.out.len; omega)] at this; exact this) HVB.out
            have hset := HB.out.set (i + k) ((ol[i + k]?.getD 0 + carry) % 4294967296)
            have HSET := Lib.hid hset
            clear hset
            have HK := Lib.hid hk'
            clear hk'
            go_wp2
            go_roundw
            case rel =>
              refine FIN.out _ (ol[i + k]?.getD 0 + carry) hik (Nat.lt_succ_of_le (Nat.le_of_eq HK.out)) (fun _ => hsm) ?_ (by omega) (by simpa using HSET.out) (HBE.out.setCell (Nat.le_refl _) _)
              rw [Z2.out hkm', Nat.mul_zero, Nat.add_zero]
            all_goals first | (simp [intOf]; done) | (have := HK.out; simp [intOf]; omega)
    · have HB := Lib.hid hblk
      have HO := Lib.hid hol
      have HV := Lib.hid hval
      have HDO := Lib.hid hdo
      have HBE := Lib.hid hbel
      clear hblk hol hval hdo hbel
      go_wp2_with fail
      obtain rfl : i = n := by omega
      refine (r_cut_calls 4294967296 _ _ _ ol _ (by have := HB.out.sl (by have := HO.out; omega); rw [HO.out] at this; exact this) HDO.out).mono ?_
      rintro e w' ⟨j, hj, hcj, hvj, rfl, rfl⟩
      go_wp2
      go_ret
      refine ⟨_, rfl, ⟨_, _, _, _, rfl, (by have := HB.out.sl (by have := HO.out; omega); rw [HO.out] at this; exact this.take j hj), hcj, ?_⟩, HBE.out, Fresh.at _ _ _ _⟩
      rw [hvj, HV.out, val_take_all _ l _ (by have := HS.out.len; omega)]
end Go.Proofs.YtbnomdlojmgigaaGreat
namespace Go.Proofs.YtbnomdlojmgigaaGreat
open Go.RowKit Dg
theorem val_zeros_append (B n : Nat) (l : List Nat) : val B (List.replicate n 0 ++ l) = val B l * B ^ n := by
  rw [val_append, val_zeros, List.length_replicate, Nat.zero_add, Nat.mul_comm]
theorem shift_parts (x s : Nat) : x * 4294967296 ^ (s / 32) * 2 ^ (s % 32) = x * 2 ^ s := by
  rw [show (4294967296 : Nat) = 2 ^ 32 from rfl, ← Nat.pow_mul, Nat.mul_assoc, ← Nat.pow_add, Nat.div_add_mod]
theorem r_Shifted_calls (ao : Option Addr) (n c : Nat) (l : List Nat) (s : Int) (w : World) (hs : Sl .u32 w ao n c l) (hd : Digs 4294967296 l) (hn : n ≤ 17179869184) (h0 : 0 ≤ s) (h1 : s ≤ 17179869184) :
    Calls Tryz.prog 148 #[.slice ao n c, .int .i64 s] w (RetNat .u32 4294967296 w (val 4294967296 l * 2 ^ s.toNat)) := by
  obtain ⟨s, rfl⟩ := Int.eq_ofNat_of_zero_le h0
  rw [Int.toNat_natCast, ← shift_parts]
  have h5 : s % 32 < 32 := Nat.mod_lt _ (by omega)
  have hlen := hs.len
  have HS := Lib.hid hs; clear hs
  have HD := Lib.hid hd; clear hd
  have HL := Lib.hid hlen; clear hlen
  obtain ⟨i0, hi, hz0, hz1, hz2⟩ := info_parts info_u32
  have hbz := Blk.new .u32 150 w (List.replicate (s / 32) 0)
  have hbe : Below w.heap.size w (w.alloc (.cells (U .u32 (List.replicate (s / 32) 0)) 150)) := (Below.refl _ _).alloc (Nat.le_refl _) _
  have howns := hbz.owns (by rw [List.length_replicate]; omega)
  rw [List.length_replicate] at howns
  have HOWN := Lib.hid howns
  have HBE := Lib.hid hbe
  have HBZ := Lib.hid hbz
  clear howns hbe hbz
  have hp5 : 2 ^ (s % 32) < 2 ^ 32 := Nat.pow_lt_pow_right (by omega) h5
  have hwrap : IntKind.u64.wrap ((2 : Int) ^ (s % 32)) = ((2 ^ (s % 32) : Nat) : Int) := by
    rw [show ((2 : Int) ^ (s % 32)) = ((2 ^ (s % 32) : Nat) : Int) from by simp]
    generalize 2 ^ (s % 32) = p at *
    rw [show (2 : Nat) ^ 32 = 4294967296 from rfl] at hp5
    show ((p : Int)) % 18446744073709551616 = p
    omega
  generalize 2 ^ (s % 32) = p at *
  rw [show (2 : Nat) ^ 32 = 4294967296 from rfl] at hp5
  have HWR := Lib.hid hwrap
  clear hwrap
  rcases ao with _ | ad
  · have hn0 : n = 0 := by
      rcases Nat.eq_zero_or_pos n with h | h
      · exact h
      · obtain ⟨b, o, e, _⟩ := HS.out.at h
        cases e
    subst hn0
    have : l = [] := List.length_eq_zero_iff.1 HL.out
    subst this
    have hc0 := HS.out.nil rfl
    subst hc0
    go_enter Tryz.func148, Tryz.ntmps148
    go_wp2_with (first
      | (at_make; refine wpList_make_u _ rfl _ _ 51 rfl 150 i0 .u32 Tryz.underlying51 hi hz0 hz1 _ _ _ _ (s / 32) (s / 32) rfl rfl ?c1 ?c2 (Nat.le_refl _) ?c3 ?c4 ?_)
      | (at_builtin; refine wpList_append_own_none rfl _ _ 51 rfl w.heap.size 150 i0 1 Tryz.underlying51 hi _ _ _ rfl HOWN.out rfl ?_))
    case c1 => omega
    case c2 => omega
    case c3 => rw [hz2]; omega
    case c4 => omega
    have hsl := HBZ.out.sl (by rw [List.length_replicate]; omega)
    rw [List.length_replicate] at hsl
    have hsl : Sl .u32 (w.alloc (.cells (U .u32 (List.replicate (s / 32) 0)) 150)) (some ⟨w.heap.size, 0, none⟩) (s / 32) (s / 32) (List.replicate (s / 32) 0 ++ []) := by rw [List.append_nil]; exact hsl
    have HSL := Lib.hid hsl
    have HBEL := HBE
    clear hsl
    go_wp2_with fail
    rw [HWR.out]
    refine (r_Nat_calls _ _ (by omega) (by omega)).mono ?_
    rintro e w2 ⟨_, rfl, ⟨ao2, n2, c2, l2, rfl, hs2, hc2, hv2⟩, hb2, _⟩
    rw [Int.toNat_natCast] at hv2
    have hn2 : n2 ≤ 1 := by rw [← hs2.len]; exact hc2.length_le (by omega) (by rw [hv2]; omega)
    have HS2 := Lib.hid hs2
    have HC2 := Lib.hid hc2
    have HV2 := Lib.hid hv2
    have HB2 := Lib.hid hb2
    clear hs2 hc2 hv2 hb2
    go_wp2_with fail
    refine (r_Product_calls _ _ _ _ _ _ _ _ _ (HSL.out.mono HB2.out) HS2.out ((Digs.zeros (by omega) _).append HD.out) HC2.out.1 (by omega) (by omega)).mono ?_
    rintro e w3 ⟨_, rfl, hnv, hb3, hf3⟩
    rw [HV2.out, val_zeros_append] at hnv
    have HNV := Lib.hid hnv
    have HB3 := Lib.hid hb3
    clear hnv hb3
    go_wp2
    go_ret
    exact ⟨_, rfl, HNV.out, (HBEL.out.trans (HB2.out.mono HBEL.out.size)).trans (HB3.out.mono (Nat.le_trans HBEL.out.size HB2.out.size)), hf3.mono (Nat.le_trans HBEL.out.size HB2.out.size)⟩
  · have hnews := HS.out.news' HBE.out
    have HNEWS := Lib.hid hnews; clear hnews
    go_enter Tryz.func148, Tryz.ntmps148
    go_wp2_with (first
      | (at_make; refine wpList_make_u _ rfl _ _ 51 rfl 150 i0 .u32 Tryz.underlying51 hi hz0 hz1 _ _ _ _ (s / 32) (s / 32) rfl rfl ?c1 ?c2 (Nat.le_refl _) ?c3 ?c4 ?_)
      | (at_builtin; refine wpList_append_own _ rfl _ _ 51 rfl w.heap.size 150 i0 (.int .u32 0) 1 4 Tryz.underlying51 hi hz0 hz1 hz2 rfl (by decide) _ _ _ rfl HOWN.out ad n c (l.map fun x : Nat => Value.int .u32 (x : Int)) rfl ?d1 HNEWS.out (map_oneCell _ _) ?d2 ?d3 ?d4 ?_))
    case c1 => omega
    case c2 => omega
    case c3 => rw [hz2]; omega
    case c4 => omega
    case d1 => rw [List.length_map, HL.out, Nat.mul_one]
    case d2 => unfold maxLen; omega
    case d3 => omega
    case d4 => simp
    intro v' w1 hown' hgrow hnil
    have hown' : w1.ownsRow w.heap.size 150 1 v' (s / 32 + n) ((List.replicate (s / 32) 0 ++ l).map fun x : Nat => Value.int .u32 (x : Int)) := by simpa using hown'
    have hne : v' ≠ .slice none 0 0 := fun h => by first | exact hnil h | (have := (hnil.1 h).1; cases this)
    obtain ⟨ao', c', rfl, hsl⟩ := Sl.of_owns hown' (.inl hne)
    have hbel := below_of_grown hgrow HBE.out (by simp)
    have HSL := Lib.hid hsl
    have HBEL := Lib.hid hbel
    clear hown' hgrow hnil hsl hbel hne
    go_wp2_with fail
    rw [HWR.out]
    refine (r_Nat_calls _ _ (by omega) (by omega)).mono ?_
    rintro e w2 ⟨_, rfl, ⟨ao2, n2, c2, l2, rfl, hs2, hc2, hv2⟩, hb2, _⟩
    rw [Int.toNat_natCast] at hv2
    have hn2 : n2 ≤ 1 := by rw [← hs2.len]; exact hc2.length_le (by omega) (by rw [hv2]; omega)
    have HS2 := Lib.hid hs2
    have HC2 := Lib.hid hc2
    have HV2 := Lib.hid hv2
    have HB2 := Lib.hid hb2
    clear hs2 hc2 hv2 hb2
    go_wp2_with fail
    refine (r_Product_calls _ _ _ _ _ _ _ _ _ (HSL.out.mono HB2.out) HS2.out ((Digs.zeros (by omega) _).append HD.out) HC2.out.1 (by omega) (by omega)).mono ?_
    rintro e w3 ⟨_, rfl, hnv, hb3, hf3⟩
    rw [HV2.out, val_zeros_append] at hnv
    have HNV := Lib.hid hnv
    have HB3 := Lib.hid hb3
    clear hnv hb3
    go_wp2
    go_ret
    exact ⟨_, rfl, HNV.out, (HBEL.out.trans (HB2.out.mono HBEL.out.size)).trans (HB3.out.mono (Nat.le_trans HBEL.out.size HB2.out.size)), hf3.mono (Nat.le_trans HBEL.out.size HB2.out.size)⟩
end Go.Proofs.YtbnomdlojmgigaaGreat
