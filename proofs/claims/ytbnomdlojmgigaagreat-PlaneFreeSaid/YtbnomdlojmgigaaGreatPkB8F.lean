/-
  The contracts of the program's naturals, twelfth part: decimal.
-/
import Derived.Test.YtbnomdlojmgigaaGreatPkB7F
import Derived.Test.YtbnomdlojmgigaaGreatPkB6F
import Derived.Test.YtbnomdlojmgigaaGreatPkB0F
import Derived.Test.YtbnomdlojmgigaaGreatPkB1F
import Derived.Laws.IdiomStrings
import Derived.Deep.RegionHeld3
import Derived.Deep.DeepCutAuto
import Derived.Deep.DrawnRows
import Derived.StillTailTactics
set_option linter.unusedSimpArgs false
set_option linter.unusedVariables false
set_option maxRecDepth 100000
set_option maxHeartbeats 4000000
namespace Go.Proofs.YtbnomdlojmgigaaGreat
open Go.RowKit Dg
theorem dgs_len (k : Nat) : ∀ n, n < 10 ^ k → (dgs n).length ≤ k := by
  induction k with
  | zero => intro n h; have : n = 0 := by simpa using h
            subst this; rw [dgs_zero]; exact Nat.le_refl _
  | succ k ih =>
    intro n h
    by_cases h0 : n = 0
    · subst h0; rw [dgs_zero]; exact Nat.zero_le _
    · rw [dgs_succ h0, List.length_append, List.length_singleton]
      have := ih (n / 10) (by rw [Nat.pow_succ] at h; omega)
      omega
theorem pad_zeros : ∀ (k n : Nat), n < 10 ^ k → pad k n = List.replicate (k - (dgs n).length) 48 ++ dgs n
  | 0, n, h => by
    have : n = 0 := by simpa using h
    subst this; rw [dgs_zero]; rfl
  | k + 1, n, h => by
    rw [pad, pad_zeros k (n / 10) (by rw [Nat.pow_succ] at h; omega)]
    by_cases h0 : n = 0
    · subst h0
      rw [show (0 : Nat) / 10 = 0 from rfl, dgs_zero, List.append_nil, List.append_nil]
      simp only [List.length_nil, Nat.sub_zero, Nat.zero_mod, Nat.add_zero]
      rw [List.replicate_succ']
      rfl
    · rw [dgs_succ h0, List.length_append, List.length_singleton, List.append_assoc]
      congr 2
      omega
theorem byte_digit (n : Nat) : (UInt8.ofNat (48 + n % 10)).toNat = 48 + n % 10 := by
  have : n % 10 < 10 := Nat.mod_lt _ (by omega)
  simp
  omega
def RetS (w : World) (l : List UInt8) (e : Ending) (w' : World) : Prop := e = .returned (.string ⟨l.toArray⟩) ∧ Below w.heap.size w w'
theorem l_decimal_calls (n : Nat) (w : World) (hn : n < 18446744073709551616) : Calls Tryz.prog 108 #[.int .u64 n] w (RetS w (dgs n)) := by
  have hlen := dgs_len 20 n (by omega)
  generalize hD : dgs n = D at *
  have HD := Lib.hid hD; clear hD
  have hb0 : Blk .u8 172 (w.alloc (.cells (U .u8 (List.replicate 20 0)) 172)) w.heap.size (List.replicate 20 0) := Blk.new .u8 _ w _
  have HB0 := Lib.hid hb0; clear hb0
  go_enter Tryz.func108, Tryz.ntmps108
  go_wp2
  go_loopw [0, 4] (fun nv av wr => ∃ (m k : Nat) (L : List Nat) (t : List UInt8), nv = .int .u64 m ∧ av = .int .i64 k ∧ k ≤ 20 ∧ m < 18446744073709551616 ∧ Blk .u8 172 wr w.heap.size L ∧ L.length = 20 ∧ L.drop k = t.map UInt8.toNat ∧ dgs m ++ t = D ∧ (dgs m).length ≤ k ∧ Below w.heap.size w wr) (fun nv _ _ => (intOf nv).toNat)
  case atStart => exact ⟨n, 20, _, [], rfl, rfl, Nat.le_refl _, hn, HB0.out, by simp, by simp, by rw [List.append_nil]; exact HD.out, by rw [HD.out]; exact hlen, (Below.refl _ _).alloc (Nat.le_refl _) _⟩
  case round =>
    obtain ⟨m, k, L, t, rfl, rfl, hk, hm, hblk, hL, hdrop, hdg, hlk, hbel⟩ := hrel
    have HB := Lib.hid hblk
    have HL := Lib.hid hL
    have HDR := Lib.hid hdrop
    have HDG := Lib.hid hdg
    have HLK := Lib.hid hlk
    have HBE := Lib.hid hbel
    clear hblk hL hdrop hdg hlk hbel HB0 hlen
    by_cases h0 : m = 0
    · subst h0
      have htl : t.length = 20 - k := by
        have := congrArg List.length HDR.out
        rw [List.length_drop, HL.out, List.length_map] at this
        omega
      have hconv := run_convert_bytes_back (P := Tryz.prog) wr 136 9 5 ⟨w.heap.size, k, none⟩ (20 - k) t Tryz.underlying136 Tryz.underlying5 Tryz.underlying9 (by
        intro j hj
        rw [add_plain, HB.out.cell (by rw [HL.out]; omega)]
        have h1 : (L.drop k)[j]?.getD 0 = t[j].toNat := by rw [HDR.out]; simp [List.getElem?_eq_getElem hj]
        rw [List.getElem?_drop] at h1
        rw [h1])
      rw [htl] at hconv
      have HTL := Lib.hid htl
      clear htl
      by_cases hk20 : k = 20
      · subst hk20
        have hc0 := run_convert_bytes_back (P := Tryz.prog) wr 136 9 5 ⟨w.heap.size, 0, none⟩ 0 [] Tryz.underlying136 Tryz.underlying5 Tryz.underlying9 (by intro j hj; simp at hj)
        rw [List.length_nil] at hc0
        clear hconv
        go_wp2
        go_ret
        refine ⟨?_, HBE.out⟩
        have h1 := HTL.out
        obtain rfl : t = [] := List.length_eq_zero_iff.1 (by omega)
        have h2 := HDG.out
        rw [dgs_zero] at h2
        rw [← h2]
        rfl
      · have hbd : (k : Int) ≤ 20 := by omega
        have hk20' : ¬ 20 = k := by omega
        go_wp2
        go_ret
        refine ⟨?_, HBE.out⟩
        have h2 := HDG.out
        rw [dgs_zero, List.nil_append] at h2
        rw [← h2]
        rfl
    · have hpos : 0 < (m : Int) := by omega
      have hk1 : 1 ≤ k := by
        have := HLK.out
        rw [dgs_succ h0, List.length_append, List.length_singleton] at this
        omega
      have hcell := HB.out.cell (j := k - 1) (by rw [HL.out]; omega)
      have hfree := HB.out.free (k - 1)
      have hset := HB.out.set (k - 1) (48 + m % 10)
      have HSET := Lib.hid hset
      clear hset
      have hbd : (k : Int) - 1 < 20 := by omega
      go_wp2
      go_roundw
      case rel =>
        refine ⟨m / 10, k - 1, L.set (k - 1) (48 + m % 10), UInt8.ofNat (48 + m % 10) :: t, by simp, by congr 1; omega, by omega, by omega, ?_, by rw [List.length_set]; exact HL.out, ?_, ?_, ?_, HBE.out.setCell (Nat.le_refl _) _⟩
        · have := HSET.out
          simpa using this
        · have e : L.drop k = (L.set (k - 1) (48 + m % 10)).drop k := (drop_set_lt (by omega)).symm
          rw [List.drop_eq_getElem_cons (by rw [List.length_set, HL.out]; omega), show k - 1 + 1 = k from by omega, ← e, HDR.out, List.getElem_set_self, List.map_cons, byte_digit]
        · have := HDG.out
          rw [dgs_succ h0, List.append_assoc] at this
          exact this
        · have := HLK.out
          rw [dgs_succ h0, List.length_append, List.length_singleton] at this
          omega
      all_goals first | (simp [intOf]; done) | (simp [intOf]; omega)
end Go.Proofs.YtbnomdlojmgigaaGreat
namespace Go.Proofs.YtbnomdlojmgigaaGreat
open Go.RowKit Dg
theorem zeros_cut : ∀ k : Nat, k < 20 → (ByteArray.mk #[48, 48, 48, 48, 48, 48, 48, 48, 48, 48, 48, 48, 48, 48, 48, 48, 48, 48, 48, 48, 48, 48, 48, 48, 48, 48, 48, 48, 48, 48, 48, 48, 48, 48, 48, 48, 48, 48, 48, 48, 48, 48, 48, 48, 48, 48, 48, 48, 48, 48, 48, 48, 48, 48, 48, 48, 48, 48, 48, 48, 48, 48, 48, 48]).extract 0 k = ⟨(List.replicate k 48).toArray⟩ := by decide
theorem hp_ne (s : ByteArray) (w : World) (h : s.data.toList.head? = some 48 → False) : Calls Tryz.prog 140 #[.string s, .string ⟨#[48]⟩] w fun e w' => e = .returned (.bool false) ∧ w = w' := by
  refine (Tryz.strings_HasPrefix s ⟨#[48]⟩ w).mono ?_
  rintro e w' ⟨rfl, rfl⟩
  refine ⟨?_, rfl⟩
  have : Lib.hasPrefix s.data.toList [48] = false := by
    cases hs : s.data.toList with
    | nil => rfl
    | cons c r => rw [hs] at h; show (48 == c && List.isPrefixOf [] r) = false; rw [beq_eq_false_iff_ne.2 (fun e => h (by rw [← e]; rfl))]; rfl
  rw [this]
theorem hp_eq (s : ByteArray) (w : World) (h : s.data.toList.head? = some 48) : Calls Tryz.prog 140 #[.string s, .string ⟨#[48]⟩] w fun e w' => e = .returned (.bool true) ∧ w = w' := by
  refine (Tryz.strings_HasPrefix s ⟨#[48]⟩ w).mono ?_
  rintro e w' ⟨rfl, rfl⟩
  refine ⟨?_, rfl⟩
  have : Lib.hasPrefix s.data.toList [48] = true := by
    cases hs : s.data.toList with
    | nil => rw [hs] at h; cases h
    | cons c r => rw [hs] at h; have e : c = 48 := by simpa using h
                  rw [e]; rfl
  rw [this]
theorem repeat0 (k : Nat) (hk : k ≤ 19) (w : World) : Calls Tryz.prog 109 #[.string ⟨#[48]⟩, .int .i64 k] w fun e w' => e = .returned (.string ⟨(List.replicate k 48).toArray⟩) ∧ w' = w := by
  by_cases h0 : k = 0
  · subst h0
    go_enter Tryz.func109, Tryz.ntmps109
    go_wp2
    go_ret
    exact ⟨rfl, rfl⟩
  · by_cases h1 : k = 1
    · subst h1
      go_enter Tryz.func109, Tryz.ntmps109
      go_wp2
      go_ret
      exact ⟨rfl, rfl⟩
    · have h0' : ((k : Int) == 0) = false := by rw [beq_eq_false_iff_ne]; omega
      have h1' : ((k : Int) == 1) = false := by rw [beq_eq_false_iff_ne]; omega
      have hcut := zeros_cut k (by omega)
      generalize hR : (⟨(List.replicate k 48).toArray⟩ : ByteArray) = R at *
      clear h0 h1
      go_enter Tryz.func109, Tryz.ntmps109
      go_wp2_with fail
      have hmul := Tryz.bits_Mul 1 k (by omega) (by omega) w
      rw [show 1 * k / 18446744073709551616 = 0 from by omega, show 1 * k % 18446744073709551616 = k from by omega] at hmul
      refine hmul.mono ?_
      clear hmul
      rintro e w' ⟨rfl, rfl⟩
      have hb : (k : Int) ≤ 19 := by omega
      have hb' : (k : Int) ≤ 9223372036854775807 := by omega
      go_wp2_with fail
      refine (hp_ne _ _ (by decide)).mono ?_
      rintro e w' ⟨rfl, rfl⟩
      go_wp2_with fail
      refine (hp_ne _ _ (by decide)).mono ?_
      rintro e w' ⟨rfl, rfl⟩
      go_wp2_with fail
      refine (hp_eq _ _ (by decide)).mono ?_
      rintro e w' ⟨rfl, rfl⟩
      go_wp2
      go_ret
      exact ⟨rfl, rfl⟩
end Go.Proofs.YtbnomdlojmgigaaGreat
namespace Go.Proofs.YtbnomdlojmgigaaGreat
open Go.RowKit Dg
def strV (l : List UInt8) : Value := .string ⟨l.toArray⟩
end Go.Proofs.YtbnomdlojmgigaaGreat
namespace Go.Proofs.YtbnomdlojmgigaaGreat
open Go.RowKit Dg
theorem l_byChunk (ao : Option Addr) (n c : Nat) (l : List Nat) (w : World) (hs : Sl .u64 w ao n c l) (hd : Digs 18446744073709551616 l) (hn : n ≤ 1099511627776) :
    Calls Tryz.prog 107 #[.slice ao n c, .int .u64 10000000000000000000] w (RetNatD .u64 18446744073709551616 w (val 18446744073709551616 l / 10 ^ 19) (val 18446744073709551616 l % 10 ^ 19)) :=
  l_byWord_calls ao n c l (10 ^ 19) w hs hd (by decide) (by decide) hn
theorem string_info : (Tryz.prog.info? 9).map (fun i => (i.zero, i.size, i.bytes)) = some (some (.string ⟨#[]⟩), 1, 16) := by kernel_rfl
theorem dgs_split19 {m : Nat} (hq : 0 < m / 10 ^ 19) : dgs m = dgs (m / 10 ^ 19) ++ (List.replicate (19 - (dgs (m % 10 ^ 19)).length) 48 ++ dgs (m % 10 ^ 19)) := by
  have h := dgs_split 19 hq
  rw [h, ← pad_mod 19 m, pad_zeros 19 (m % 10 ^ 19) (Nat.mod_lt _ (by decide))]
theorem dgs_one19 {m : Nat} (hq : m / 10 ^ 19 = 0) : dgs (m % 10 ^ 19) = dgs m := by
  rw [Nat.mod_eq_of_lt]
  rcases Nat.lt_or_ge m (10 ^ 19) with h | h
  · exact h
  · have := Nat.div_pos h (by decide); omega
theorem pow_step {m n m0 : Nat} (h : m * 2 ^ n ≤ m0) : m / 10 ^ 19 * 2 ^ (n + 1) ≤ m0 := by
  have h1 : m / 10 ^ 19 * 2 ≤ m := by
    have := Nat.div_mul_le_self m (10 ^ 19)
    have h2 : m / 10 ^ 19 * 2 ≤ m / 10 ^ 19 * 10 ^ 19 := Nat.mul_le_mul_left _ (by decide)
    omega
  generalize m / 10 ^ 19 = q at *
  have h2 : q * 2 ^ (n + 1) = q * 2 * 2 ^ n := by rw [Nat.pow_succ, Nat.mul_assoc, Nat.mul_comm (2 ^ n) 2]
  have h3 : q * 2 * 2 ^ n ≤ m * 2 ^ n := Nat.mul_le_mul_right _ h1
  omega
theorem pow_bound {m n m0 K : Nat} (h : m * 2 ^ n ≤ m0) (hm : 0 < m) (h0 : m0 < 18446744073709551616 ^ K) : n < 64 * K := by
  have h1 : 2 ^ n ≤ m * 2 ^ n := Nat.le_mul_of_pos_left _ hm
  have h2 : (18446744073709551616 : Nat) ^ K = 2 ^ (64 * K) := by rw [show (18446744073709551616 : Nat) = 2 ^ 64 from rfl, ← Nat.pow_mul]
  rw [h2] at h0
  exact (Nat.pow_lt_pow_iff_right (by omega)).1 (Nat.lt_of_le_of_lt (Nat.le_trans h1 h) h0)
theorem l_text_calls (ao : Option Addr) (n0 c0 : Nat) (l0 : List Nat) (w : World) (hs : Sl .u64 w ao n0 c0 l0) (hd : Canon 18446744073709551616 l0) (hn : n0 ≤ 536870912) :
    Calls Tryz.prog 69 #[.slice ao n0 c0] w (RetS w (decS (val 18446744073709551616 l0))) := by
  have hm0 := val_lt (by omega) hd.1
  rw [hs.len] at hm0
  have hbl : (dgs (val 18446744073709551616 l0)).length ≤ 64 * n0 := by
    have h1 := dgs_length (val 18446744073709551616 l0)
    have h2 : bl (val 18446744073709551616 l0) ≤ 64 * n0 := bl_le_of_lt (by rwa [show (18446744073709551616 : Nat) = 2 ^ 64 from rfl, ← Nat.pow_mul] at hm0)
    omega
  have hst : NatS .u64 18446744073709551616 536870912 w (.slice ao n0 c0) (val 18446744073709551616 l0) := ⟨_, _, _, _, rfl, hs, hd, rfl, hn⟩
  generalize hM : val 18446744073709551616 l0 = m0 at *
  have HM0 := Lib.hid hm0
  have HST := Lib.hid hst
  have HBL := Lib.hid hbl
  clear hs hd hM hm0 hst hbl
  obtain ⟨i0, hi, hz0, hz1, hz2⟩ := info_parts string_info
  go_enter Tryz.func69, Tryz.ntmps69
  go_wp2
  go_loopg [0, 3] m0 (fun g av pv wr => ∃ (m n : Nat) (ps : List (List UInt8)), m ≤ g ∧ NatS .u64 18446744073709551616 536870912 wr av m ∧ wr.ownsRow w.heap.size 9 1 pv n (ps.map strV) ∧ m * 2 ^ n ≤ m0 ∧ dgs m ++ ps.reverse.flatten = dgs m0 ∧ Below w.heap.size w wr ∧ (n = 0 ∨ 0 < m0))
  case atStart => exact ⟨m0, 0, [], Nat.le_refl _, HST.out, World.ownsRow_nil _ _ _ _, by simp, by simp, Below.refl _ _, .inl rfl⟩
  case round =>
    obtain ⟨m, n, ps, hmg, ⟨a1, n1, c1, l1, rfl, hs1, hc1, hv1, hn1⟩, hown, hpow, hdg, hbel, hn00⟩ := hrel
    have hlen := hown.1
    rw [List.length_map, Nat.mul_one] at hlen
    have HS1 := Lib.hid hs1
    have HC1 := Lib.hid hc1
    have HV1 := Lib.hid hv1
    have HOWN := Lib.hid hown
    have HPOW := Lib.hid hpow
    have HDG := Lib.hid hdg
    have HB := Lib.hid hbel
    have HLEN := Lib.hid hlen
    have hpos : 0 < n1 ↔ 0 < m := by
      have := hc1.length_pos_iff (by omega)
      rw [hs1.len, hv1] at this
      exact this
    have HN00 := Lib.hid hn00
    clear hs1 hc1 hv1 hown hpow hdg hbel HST hlen hn00
    by_cases h0 : m = 0
    · subst h0
      obtain rfl : n1 = 0 := by omega
      clear hpos
      by_cases hn0 : n = 0
      · subst hn0
        obtain ⟨pa, pc, rfl, hpc, hpcm, hpn⟩ := owns_slice HOWN.out
        go_wp2
        go_ret
        refine ⟨?_, HB.out⟩
        have h1 := HDG.out
        obtain rfl : ps = [] := List.length_eq_zero_iff.1 HLEN.out
        have h2 : m0 = 0 := by
          by_cases h : m0 = 0
          · exact h
          · exfalso
            rw [dgs_zero, dgs_succ h] at h1
            simp at h1
        subst h2
        rfl
      · obtain ⟨g, pc, rfl, hgB, hgl⟩ := HOWN.out.form (by omega)
        have hnmax : n ≤ 9223372036854775807 := by obtain ⟨_, _, _, h1, h2, _⟩ := owns_slice HOWN.out; omega
        have hn0' : ((n : Int) == 0) = false := by rw [beq_eq_false_iff_ne]; omega
        have hcells : ∀ j, j < n → wr.cell? ⟨g, j, none⟩ = some (strV (ps[j]?.getD [])) := by
          intro j hj
          rw [HOWN.out.cellAt j (by omega), List.getElem?_map, List.getElem?_eq_getElem (by have := HLEN.out; omega)]
          rfl
        have HCELLS := Lib.hid hcells
        clear hcells
        have hnil : ps ≠ [] := by intro e; subst e; have := HLEN.out; simp at this; omega
        have hdec : decS m0 = ps.reverse.flatten := by
          have h1 := HDG.out
          rw [dgs_zero, List.nil_append] at h1
          unfold decS
          rw [if_neg, h1]
          intro e
          have := HN00.out
          omega
        have hdl : ps.reverse.flatten.length ≤ 64 * n0 := by
          have h1 := HDG.out
          rw [dgs_zero, List.nil_append] at h1
          rw [h1]; exact HBL.out
        have HDL := Lib.hid hdl
        have HDEC := Lib.hid hdec
        clear hdec hdl
        have hb0 : Lib.IsBuilder 138 5 wr.heap.size wr.heap.size (Lib.byteCells (ps.drop n).reverse.flatten) (wr.alloc (.cells #[.pointer none, .slice none 0 0] 138)) := by
          rw [List.drop_of_length_le (by have := HLEN.out; omega)]
          exact .inl ⟨Nat.le_refl _, .slice none 0 0, heap_alloc_new wr _, World.ownsRow_nil _ _ _ _, by simp [Value.ownBlock]⟩
        have HB0 := Lib.hid hb0
        clear hb0
        obtain ⟨wq, hwq⟩ : ∃ wq : World, wq = wr := ⟨_, rfl⟩
        subst hwq
        go_wp2
        go_loopw [8] (fun iv w5 => ∃ k : Nat, k ≤ n ∧ iv = .int .i64 ((k : Int) - 1) ∧ Lib.IsBuilder 138 5 wq.heap.size wq.heap.size (Lib.byteCells (ps.drop k).reverse.flatten) w5 ∧ Below wq.heap.size wq w5) (fun iv _ => (intOf iv + 1).toNat)
        case atStart => exact ⟨n, Nat.le_refl _, rfl, HB0.out, (Below.refl _ _).alloc (Nat.le_refl _) _⟩
        case round =>
          obtain ⟨k, hk, rfl, hbk, hbe⟩ := hrel
          have HBK := Lib.hid hbk
          have HBE := Lib.hid hbe
          clear hbk hbe HB0
          by_cases hk0 : k = 0
          · subst hk0
            go_wp2_with fail
            refine (Tryz.Builder_String_any _ _ _ _ HBK.out HBE.out.size).mono ?_
            rintro e w6 ⟨rfl, hb6⟩
            go_wp2
            go_ret
            exact ⟨by rw [HDEC.out]; rfl, HB.out.trans ((HBE.out.trans hb6).mono HB.out.size)⟩
          · obtain ⟨j, rfl⟩ : ∃ j, k = j + 1 := ⟨k - 1, by omega⟩
            have hc := HCELLS.out j (by omega)
            have hc := (HBE.out.cell (p := ⟨g, j, none⟩) hgl).trans hc
            have hpj : ps.drop j = (ps[j]?.getD []) :: ps.drop (j + 1) := by
              have hj : j < ps.length := by have := HLEN.out; omega
              rw [List.drop_eq_getElem_cons hj, List.getElem?_eq_getElem hj]
              rfl
            generalize ps[j]?.getD [] = S at *
            have HPJ := Lib.hid hpj
            clear hpj
            have hsum : (ps.drop (j + 1)).reverse.flatten.length + S.length ≤ 64 * n0 := by
              have h1 := HDL.out
              rw [← List.take_append_drop j ps, HPJ.out, List.reverse_append, List.flatten_append, List.reverse_cons, List.flatten_append] at h1
              simp only [List.length_append, List.flatten_cons, List.flatten_nil, List.append_nil] at h1
              omega
            unfold strV at hc
            have HSUM := Lib.hid hsum
            clear hsum
            go_wp2_with fail
            refine (writeString _ _ _ _ _ HBK.out (by rw [Lib.byteCells_length]; have := HSUM.out; simp only [ByteArray.size, List.size_toArray]; omega) HBE.out.size).mono ?_
            rintro e w6 ⟨rfl, hb6, hbe6⟩
            have HB6 := Lib.hid hb6
            have HBE6 := Lib.hid hbe6
            clear hb6 hbe6
            go_wp2
            go_roundw
            case rel =>
              refine ⟨j, by omega, by simp, ?_, HBE.out.trans HBE6.out⟩
              have := HB6.out
              rw [Lib.strCells_eq, ← Lib.byteCells_append] at this
              rw [HPJ.out, List.reverse_cons, List.flatten_append, List.flatten_cons, List.flatten_nil, List.append_nil]
              exact .inr this
            all_goals first | (simp [intOf]; done) | (simp [intOf]; omega)
    · have hn1p : 0 < n1 := hpos.2 (by omega)
      have hn1p' : 0 < (n1 : Int) := by omega
      have hm0p : 0 < m0 := Nat.lt_of_lt_of_le (Nat.mul_pos (by omega) (Nat.pow_pos (by omega))) HPOW.out
      clear hpos
      go_wp2_with fail
      refine (l_byChunk _ _ _ _ _ HS1.out HC1.out.1 (by omega)).mono ?_
      rintro e w1 ⟨v, rfl, ⟨a2, n2, c2, l2, rfl, hs2, hc2, hv2⟩, hb⟩
      rw [HV1.out] at hv2 ⊢
      have hown1 := owns_below HOWN.out hb
      have hbe1 := HB.out.trans (hb.mono HB.out.size)
      have hr : m % 10 ^ 19 < 18446744073709551616 := Nat.lt_trans (Nat.mod_lt _ (by decide)) (by decide)
      have hn2 : n2 ≤ 536870912 := by
        have := hc2.length_le_of (by omega) HC1.out (by rw [hv2, HV1.out]; exact Nat.div_le_self _ _)
        rw [hs2.len, HS1.out.len] at this
        omega
      have hq2 : 0 < n2 ↔ 0 < m / 10 ^ 19 := by
        have := hc2.length_pos_iff (by omega)
        rw [hs2.len, hv2] at this
        exact this
      have hlr := dgs_len 19 (m % 10 ^ 19) (Nat.mod_lt _ (by decide))
      have HS2 := Lib.hid hs2
      have HC2 := Lib.hid hc2
      have HV2 := Lib.hid hv2
      have HOWN1 := Lib.hid hown1
      have HB1 := Lib.hid hbe1
      have HR := Lib.hid hr
      clear hs2 hc2 hv2 hown1 hbe1 hb hr
      generalize hmr : m % 10 ^ 19 = r at *
      have HMR := Lib.hid hmr
      clear hmr
      go_wp2_with fail
      refine (l_decimal_calls r _ HR.out).mono ?_
      rintro e w2 ⟨rfl, hb⟩
      have hown2 := owns_below HOWN1.out hb
      have hbe2 := HB1.out.trans (hb.mono HB1.out.size)
      have hs2' := HS2.out.mono hb
      have HS2' := Lib.hid hs2'
      have HOWN2 := Lib.hid hown2
      have HB2 := Lib.hid hbe2
      clear hs2' hown2 hbe2 hb
      generalize hT : dgs r = T at *
      have HT := Lib.hid hT
      clear hT
      by_cases hq : m / 10 ^ 19 = 0
      · obtain rfl : n2 = 0 := by omega
        clear hq2
        have hnb := pow_bound HPOW.out (by omega) HM0.out
        go_wp2_with (at_builtin; refine wpList_append_lies _ rfl _ _ _ rfl w.heap.size 9 i0 _ 1 16 Tryz.underlying130 hi hz0 hz1 hz2 rfl (by omega) _ n (ps.map strV) rfl (HOWN2.out.alloc _) ⟨w2.heap.size, 0, none⟩ 1 1 [strV T] rfl rfl (news_new _ _ _) ?c1 (by omega) ?c2 ?c3 ?c4 _ rfl ?_)
        case c1 => intro u hu; simp at hu; subst hu; rfl
        case c2 => unfold maxLen; omega
        case c3 => omega
        case c4 => have := HB2.out.size; simp; omega
        intro g cap w3 hown3 hgrow3 hat3 hlt3
        have HOWN3 := Lib.hid hown3
        have ho3 := owns_onlyT (HOWN2.out.alloc (.cells #[strV T] 9)) hgrow3
        have HO3 := Lib.hid ho3
        have HB3 := Lib.hid (owns_belowB (HOWN2.out.alloc (.cells #[strV T] 9)) hgrow3 (HB2.out.alloc HB2.out.size _) (by have := HB2.out.size; simp; omega))
        have HS3 := Lib.hid ((HS2'.out.mono ((Below.refl _ _).alloc (Nat.le_refl _) (.cells #[strV T] 9))).onlyT ho3 (by decide))
        clear hown3 hgrow3 ho3
        go_wp2
        go_roundg 0
        case measure => omega
        case rel =>
          refine ⟨0, n + 1, ps ++ [T], Nat.le_refl _, ⟨_, _, _, _, rfl, HS3.out, HC2.out, by rw [HV2.out]; exact hq, by omega⟩, by simpa using HOWN3.out, by simp, ?_, HB3.out, .inr hm0p⟩
          rw [← HDG.out, dgs_zero, List.reverse_append, List.flatten_append, ← HT.out, ← HMR.out, dgs_one19 hq]
          simp
      · have hn2p : 0 < (n2 : Int) := by omega
        clear hq2
        have hnb := pow_bound HPOW.out (by omega) HM0.out
        go_wp2_with fail
        rw [show (19 - (T.length : Int)) = ((19 - T.length : Nat) : Int) from by omega]
        refine (repeat0 _ (by omega) _).mono ?_
        rintro e w3 ⟨rfl, rfl⟩
        have hzl : (List.replicate (19 - T.length) (48 : UInt8)).length = 19 - T.length := List.length_replicate
        generalize hZ : List.replicate (19 - T.length) (48 : UInt8) = Z at *
        have HZ := Lib.hid hZ
        clear hZ
        have hcat : ∀ W : World, (Op.stringOp .add ⟨Z.toArray⟩ ⟨T.toArray⟩).run Tryz.prog W = .ok (.string ⟨(Z ++ T).toArray⟩) W := fun W => by
          rw [run_string_add_sum, bytes_append]
          simp only [ByteArray.size, List.size_toArray]
          omega
        go_wp2_with (at_builtin; refine wpList_append_lies _ rfl _ _ _ rfl w.heap.size 9 i0 _ 1 16 Tryz.underlying130 hi hz0 hz1 hz2 rfl (by omega) _ n (ps.map strV) rfl (HOWN2.out.alloc _) ⟨w3.heap.size, 0, none⟩ 1 1 [strV (Z ++ T)] rfl rfl (news_new _ _ _) ?c1 (by omega) ?c2 ?c3 ?c4 _ rfl ?_)
        case c1 => intro u hu; simp at hu; subst hu; rfl
        case c2 => unfold maxLen; omega
        case c3 => omega
        case c4 => have := HB2.out.size; simp; omega
        intro g cap w4 hown3 hgrow3 hat3 hlt3
        have HOWN3 := Lib.hid hown3
        have ho3 := owns_onlyT (HOWN2.out.alloc (.cells #[strV (Z ++ T)] 9)) hgrow3
        have HB3 := Lib.hid (owns_belowB (HOWN2.out.alloc (.cells #[strV (Z ++ T)] 9)) hgrow3 (HB2.out.alloc HB2.out.size _) (by have := HB2.out.size; simp; omega))
        have HS3 := Lib.hid ((HS2'.out.mono ((Below.refl _ _).alloc (Nat.le_refl _) (.cells #[strV (Z ++ T)] 9))).onlyT ho3 (by decide))
        clear hown3 hgrow3 ho3 hcat
        go_wp2
        go_roundg (m / 10 ^ 19)
        case measure => have := Nat.div_lt_self (show 0 < m by omega) (show 1 < 10 ^ 19 by decide); omega
        case rel =>
          refine ⟨m / 10 ^ 19, n + 1, ps ++ [Z ++ T], Nat.le_refl _, ⟨_, _, _, _, rfl, HS3.out, HC2.out, HV2.out, by omega⟩, by simpa using HOWN3.out, pow_step HPOW.out, ?_, HB3.out, .inr hm0p⟩
          rw [← HDG.out, dgs_split19 (Nat.pos_of_ne_zero hq), HMR.out, HT.out, HZ.out, List.reverse_append, List.flatten_append]
          simp
end Go.Proofs.YtbnomdlojmgigaaGreat
namespace Go.Proofs.YtbnomdlojmgigaaGreat
open Go.RowKit Dg
def RetN (k : IntKind) (B : Nat) (w : World) (x : Nat) (e : Ending) (w' : World) : Prop := ∃ v, e = .returned v ∧ NatV k B w' v x ∧ Below w.heap.size w w'
def RetQ (w : World) (q : Rat) (e : Ending) (w' : World) : Prop := ∃ v, e = .returned v ∧ RV w' v q ∧ Below w.heap.size w w'
theorem NatV.sz {w : World} {v : Value} {x K : Nat} (h : NatV .u32 4294967296 w v x) (hx : x < 4294967296 ^ K) : NatS .u32 4294967296 K w v x := by
  obtain ⟨ao, n, c, l, e, hs, hc, hv⟩ := h
  refine ⟨ao, n, c, l, e, hs, hc, hv, ?_⟩
  have := hc.length_le (by omega) (by rw [hv]; exact hx)
  rwa [hs.len] at this
end Go.Proofs.YtbnomdlojmgigaaGreat
namespace Go.Proofs.YtbnomdlojmgigaaGreat
open Go.RowKit Dg
attribute [local go_sem ↓] Go.wp_at_zero Go.wp_at_succ
def Since (w W : World) : Prop := Below w.heap.size w W
theorem Since.step {w W W' : World} (h : Since w W) (hb : Below W.heap.size W W') : Since w W' := Below.trans h (hb.mono (Below.size h))
theorem Since.refl (w : World) : Since w w := Below.refl _ _
theorem Since.rv {w W : World} {v : Value} {q : Rat} (hs : Since w W) (h : RV w v q) : RV W v q := h.mono hs
theorem Since.nv {k : IntKind} {B : Nat} {w W : World} {v : Value} {x : Nat} (hs : Since w W) (h : NatV k B w v x) : NatV k B W v x := h.mono hs
theorem RetNat.n {k : IntKind} {B : Nat} {w : World} {x : Nat} {e : Ending} {w' : World} (h : RetNat k B w x e w') : RetN k B w x e w' := let ⟨v, e, hv, hb, _⟩ := h; ⟨v, e, hv, hb⟩
theorem Box3.mono {w w' : World} {g : Nat} {u0 u1 u2 : Value} (h : Box3 w g u0 u1 u2) (hb : Below w.heap.size w w') : Box3 w' g u0 u1 u2 := h.below hb
theorem below_drewN (w : World) (q : Nat) : Below w.heap.size w (w.drewN q) := belowN (Below.refl _ _) q
end Go.Proofs.YtbnomdlojmgigaaGreat
namespace Go.Proofs.YtbnomdlojmgigaaGreat
open Go.RowKit Dg
attribute [local go_sem ↓] Go.wp_at_zero Go.wp_at_succ
def sgQ (q : Rat) : Int := if q.num < 0 then -1 else if q.num = 0 then 0 else 1
theorem RV.parts {w : World} {s : Bool} {v1 v2 : Value} {q : Rat} (h : RV w (.agg #[.bool s, v1, v2]) q) : ∃ d, s = ng q ∧ NatV .u32 4294967296 w v1 q.num.natAbs ∧ NatV .u32 4294967296 w v2 d ∧ (d = q.den ∨ d = 0 ∧ q.den = 1) := by
 obtain ⟨vn, vd, d, e, h1, h2, hd⟩ := h
 simp only [Value.agg.injEq, Array.mk.injEq, List.cons.injEq, Value.bool.injEq] at e
 obtain ⟨rfl, rfl, rfl, _⟩ := e
 exact ⟨d, rfl, h1, h2, hd⟩
theorem RV.neg {w : World} {b s : Bool} {v1 v2 : Value} {q : Rat} (h : RV w (.agg #[.bool b, v1, v2]) q) (hs : s = (!b && decide (q ≠ 0))) : RV w (.agg #[.bool s, v1, v2]) (-q) := by
 obtain ⟨d, rfl, h1, h2, hd⟩ := h.parts
 subst hs
 rw [← ng_neg]
 exact ⟨v1, v2, d, rfl, by rw [Rat.neg_num, Int.natAbs_neg]; exact h1, h2, by rw [Rat.neg_den]; exact hd⟩
def absQ (q : Rat) : Rat := if ng q then -q else q
theorem RV.abs {w : World} {b : Bool} {v1 v2 : Value} {q : Rat} (h : RV w (.agg #[.bool b, v1, v2]) q) : RV w (.agg #[.bool false, v1, v2]) (absQ q) := by
 unfold absQ
 by_cases hn : ng q = true
 ·rw [if_pos hn]
  exact h.neg (by obtain ⟨_, e, _⟩ := h.parts; rw [e, hn]; rfl)
 rw [if_neg hn]
 obtain ⟨_, e, _⟩ := h.parts
 rw [Bool.not_eq_true] at hn
 rw [e, hn] at h
 exact h
end Go.Proofs.YtbnomdlojmgigaaGreat
namespace Go.Proofs.YtbnomdlojmgigaaGreat
open Go.RowKit Dg
attribute [local go_sem ↓] Go.wp_at_zero Go.wp_at_succ
theorem RetQ.of_eq {w : World} {q q' : Rat} {e : Ending} {w' : World} (h : RetQ w q e w') (hq : q = q') : RetQ w q' e w' := hq ▸ h
theorem frac_mk (n d : Int) (hd : d ≠ 0) : (n : Rat) / (d : Rat) = mkQ (decide (n < 0) != decide (d < 0)) n.natAbs d.natAbs := by
 have h := div_mk (n : Rat) (d : Rat) (by rwa [Ne, Rat.intCast_eq_zero_iff])
 rw [h]
 simp only [ng, Rat.num_intCast, Rat.den_intCast, Nat.mul_one, Nat.one_mul]
 rfl
def textQ (q : Rat) : List UInt8 := (if ng q then [45] else []) ++ decS q.num.natAbs ++ (if q.den = 1 then [] else 47 :: decS q.den)
theorem cat_eq (w : World) (P : Program) (a b : List UInt8) (h : a.length + b.length ≤ 9223372036854775807) : (Op.stringOp .add ⟨a.toArray⟩ ⟨b.toArray⟩).run P w = .ok (.string ⟨(a ++ b).toArray⟩) w := by
 rw [run_string_add_sum, bytes_append]
 simp only [ByteArray.size, List.size_toArray]
 exact h
end Go.Proofs.YtbnomdlojmgigaaGreat
