/-
  strings.Repeat of the text "0": so many of it (up to 18).
-/
import Derived.Test.YtbnomdlojmgigaaGreatPkA12Q
import Derived.Test.YtbnomdlojmgigaaGreatPkA10Q
import Derived.Test.YtbnomdlojmgigaaGreatPkA1Q
import Derived.Deep.RegionHeld3
import Derived.Deep.DeepCutAuto
import Derived.Deep.DrawnRows
set_option linter.unusedSimpArgs false
set_option linter.unusedVariables false
set_option maxRecDepth 100000
set_option maxHeartbeats 4000000
namespace Go.Proofs.YtbnomdlojmgigaaGreat
open Go.RowKit Dg
theorem zeros_cut : ∀ k : Nat, k < 20 → (ByteArray.mk #[48, 48, 48, 48, 48, 48, 48, 48, 48, 48, 48, 48, 48, 48, 48, 48, 48, 48, 48, 48, 48, 48, 48, 48, 48, 48, 48, 48, 48, 48, 48, 48, 48, 48, 48, 48, 48, 48, 48, 48, 48, 48, 48, 48, 48, 48, 48, 48, 48, 48, 48, 48, 48, 48, 48, 48, 48, 48, 48, 48, 48, 48, 48, 48]).extract 0 k = ⟨(List.replicate k 48).toArray⟩ := by decide
theorem hp_ne (s : ByteArray) (w : World) (h : s.data.toList.head? = some 48 → False) : Calls Tryz.prog 140 #[.string s, .string ⟨#[48]⟩] w fun e w' => e = .returned (.bool false) ∧ w = w' := by
  refine (Tryz.strings_HasPrefix s ⟨#[48]⟩ w).mono ?_
  rintro e w' ⟨rfl, rfl⟩
  refine ⟨?_, rfl⟩
  have : Lib.hasPrefix s.data.toList [48] = false := by
    cases hs : s.data.toList with
    | nil => rfl
    | cons c r => rw [hs] at h; show (48 == c && List.isPrefixOf [] r) = false; rw [beq_eq_false_iff_ne.2 (fun e => h (by rw [← e]; rfl))]; rfl
  rw [this]
theorem hp_eq (s : ByteArray) (w : World) (h : s.data.toList.head? = some 48) : Calls Tryz.prog 140 #[.string s, .string ⟨#[48]⟩] w fun e w' => e = .returned (.bool true) ∧ w = w' := by
  refine (Tryz.strings_HasPrefix s ⟨#[48]⟩ w).mono ?_
  rintro e w' ⟨rfl, rfl⟩
  refine ⟨?_, rfl⟩
  have : Lib.hasPrefix s.data.toList [48] = true := by
    cases hs : s.data.toList with
    | nil => rw [hs] at h; cases h
    | cons c r => rw [hs] at h; have e : c = 48 := by simpa using h
                  rw [e]; rfl
  rw [this]
theorem repeat0 (k : Nat) (hk : k ≤ 19) (w : World) : Calls Tryz.prog 109 #[.string ⟨#[48]⟩, .int .i64 k] w fun e w' => e = .returned (.string ⟨(List.replicate k 48).toArray⟩) ∧ w' = w := by
  by_cases h0 : k = 0
  · subst h0
    go_enter Tryz.func109, Tryz.ntmps109
    go_wp2
    go_ret
    exact ⟨rfl, rfl⟩
  · by_cases h1 : k = 1
    · subst h1
      go_enter Tryz.func109, Tryz.ntmps109
      go_wp2
      go_ret
      exact ⟨rfl, rfl⟩
    · have h0' : ((k : Int) == 0) = false := by rw [beq_eq_false_iff_ne]; omega
      have h1' : ((k : Int) == 1) = false := by rw [beq_eq_false_iff_ne]; omega
      have hcut := zeros_cut k (by omega)
      generalize hR : (⟨(List.replicate k 48).toArray⟩ : ByteArray) = R at *
      clear h0 h1
      go_enter Tryz.func109, Tryz.ntmps109
      go_wp2_with fail
      have hmul := Tryz.bits_Mul 1 k (by omega) (by omega) w
      rw [show 1 * k / 18446744073709551616 = 0 from by omega, show 1 * k % 18446744073709551616 = k from by omega] at hmul
      refine hmul.mono ?_
      clear hmul
      rintro e w' ⟨rfl, rfl⟩
      have hb : (k : Int) ≤ 19 := by omega
      have hb' : (k : Int) ≤ 9223372036854775807 := by omega
      go_wp2_with fail
      refine (hp_ne _ _ (by decide)).mono ?_
      rintro e w' ⟨rfl, rfl⟩
      go_wp2_with fail
      refine (hp_ne _ _ (by decide)).mono ?_
      rintro e w' ⟨rfl, rfl⟩
      go_wp2_with fail
      refine (hp_eq _ _ (by decide)).mono ?_
      rintro e w' ⟨rfl, rfl⟩
      go_wp2
      go_ret
      exact ⟨rfl, rfl⟩
end Go.Proofs.YtbnomdlojmgigaaGreat
namespace Go.Proofs.YtbnomdlojmgigaaGreat
open Go.RowKit Dg
def strV (l : List UInt8) : Value := .string ⟨l.toArray⟩
end Go.Proofs.YtbnomdlojmgigaaGreat
namespace Go.Proofs.YtbnomdlojmgigaaGreat
open Go.RowKit Dg
theorem l_byChunk (ao : Option Addr) (n c : Nat) (l : List Nat) (w : World) (hs : Sl .u64 w ao n c l) (hd : Digs 18446744073709551616 l) (hn : n ≤ 1099511627776) :
    Calls Tryz.prog 107 #[.slice ao n c, .int .u64 10000000000000000000] w (RetNatD .u64 18446744073709551616 w (val 18446744073709551616 l / 10 ^ 19) (val 18446744073709551616 l % 10 ^ 19)) :=
  l_byWord_calls ao n c l (10 ^ 19) w hs hd (by decide) (by decide) hn
theorem string_info : (Tryz.prog.info? 9).map (fun i => (i.zero, i.size, i.bytes)) = some (some (.string ⟨#[]⟩), 1, 16) := by kernel_rfl
theorem dgs_split19 {m : Nat} (hq : 0 < m / 10 ^ 19) : dgs m = dgs (m / 10 ^ 19) ++ (List.replicate (19 - (dgs (m % 10 ^ 19)).length) 48 ++ dgs (m % 10 ^ 19)) := by
  have h := dgs_split 19 hq
  rw [h, ← pad_mod 19 m, pad_zeros 19 (m % 10 ^ 19) (Nat.mod_lt _ (by decide))]
theorem dgs_one19 {m : Nat} (hq : m / 10 ^ 19 = 0) : dgs (m % 10 ^ 19) = dgs m := by
  rw [Nat.mod_eq_of_lt]
  rcases Nat.lt_or_ge m (10 ^ 19) with h | h
  · exact h
  · have := Nat.div_pos h (by decide); omega
theorem pow_step {m n m0 : Nat} (h : m * 2 ^ n ≤ m0) : m / 10 ^ 19 * 2 ^ (n + 1) ≤ m0 := by
  have h1 : m / 10 ^ 19 * 2 ≤ m := by
    have := Nat.div_mul_le_self m (10 ^ 19)
    have h2 : m / 10 ^ 19 * 2 ≤ m / 10 ^ 19 * 10 ^ 19 := Nat.mul_le_mul_left _ (by decide)
    omega
  generalize m / 10 ^ 19 = q at *
  have h2 : q * 2 ^ (n + 1) = q * 2 * 2 ^ n := by rw [Nat.pow_succ, Nat.mul_assoc, Nat.mul_comm (2 ^ n) 2]
  have h3 : q * 2 * 2 ^ n ≤ m * 2 ^ n := Nat.mul_le_mul_right _ h1
  omega
theorem pow_bound {m n m0 K : Nat} (h : m * 2 ^ n ≤ m0) (hm : 0 < m) (h0 : m0 < 18446744073709551616 ^ K) : n < 64 * K := by
  have h1 : 2 ^ n ≤ m * 2 ^ n := Nat.le_mul_of_pos_left _ hm
  have h2 : (18446744073709551616 : Nat) ^ K = 2 ^ (64 * K) := by rw [show (18446744073709551616 : Nat) = 2 ^ 64 from rfl, ← Nat.pow_mul]
  rw [h2] at h0
  exact (Nat.pow_lt_pow_iff_right (by omega)).1 (Nat.lt_of_le_of_lt (Nat.le_trans h1 h) h0)
theorem l_text_calls (ao : Option Addr) (n0 c0 : Nat) (l0 : List Nat) (w : World) (hs : Sl .u64 w ao n0 c0 l0) (hd : Canon 18446744073709551616 l0) (hn : n0 ≤ 536870912) :
    Calls Tryz.prog 69 #[.slice ao n0 c0] w (RetS w (decS (val 18446744073709551616 l0))) := by
  have hm0 := val_lt (by omega) hd.1
  rw [hs.len] at hm0
  have hbl : (dgs (val 18446744073709551616 l0)).length ≤ 64 * n0 := by
    have h1 := dgs_length (val 18446744073709551616 l0)
    have h2 : bl (val 18446744073709551616 l0) ≤ 64 * n0 := bl_le_of_lt (by rwa [show (18446744073709551616 : Nat) = 2 ^ 64 from rfl, ← Nat.pow_mul] at hm0)
    omega
  have hst : NatS .u64 18446744073709551616 536870912 w (.slice ao n0 c0) (val 18446744073709551616 l0) := ⟨_, _, _, _, rfl, hs, hd, rfl, hn⟩
  generalize hM : val 18446744073709551616 l0 = m0 at *
  have HM0 := Lib.hid hm0
  have HST := Lib.hid hst
  have HBL := Lib.hid hbl
  clear hs hd hM hm0 hst hbl
  obtain ⟨i0, hi, hz0, hz1, hz2⟩ := info_parts string_info
  go_enter Tryz.func69, Tryz.ntmps69
  go_wp2
  go_loopg [0, 3] m0 (fun g av pv wr => ∃ (m n : Nat) (ps : List (List UInt8)), m ≤ g ∧ NatS .u64 18446744073709551616 536870912 wr av m ∧ wr.ownsRow w.heap.size 9 1 pv n (ps.map strV) ∧ m * 2 ^ n ≤ m0 ∧ dgs m ++ ps.reverse.flatten = dgs m0 ∧ Below w.heap.size w wr ∧ (n = 0 ∨ 0 < m0))
  case atStart => exact ⟨m0, 0, [], Nat.le_refl _, HST.out, World.ownsRow_nil _ _ _ _, by simp, by simp, Below.refl _ _, .inl rfl⟩
  case round =>
    obtain ⟨m, n, ps, hmg, ⟨a1, n1, c1, l1, rfl, hs1, hc1, hv1, hn1⟩, hown, hpow, hdg, hbel, hn00⟩ := hrel
    have hlen := hown.1
    rw [List.length_map, Nat.mul_one] at hlen
    have HS1 := Lib.hid hs1
    have HC1 := Lib.hid hc1
    have HV1 := Lib.hid hv1
    have HOWN := Lib.hid hown
    have HPOW := Lib.hid hpow
    have HDG := Lib.hid hdg
    have HB := Lib.hid hbel
    have HLEN := Lib.hid hlen
    have hpos : 0 < n1 ↔ 0 < m := by
      have := hc1.length_pos_iff (by omega)
      rw [hs1.len, hv1] at this
      exact this
    have HN00 := Lib.hid hn00
    clear hs1 hc1 hv1 hown hpow hdg hbel HST hlen hn00
    by_cases h0 : m = 0
    · subst h0
      obtain rfl : n1 = 0 := by omega
      clear hpos
      by_cases hn0 : n = 0
      · subst hn0
        obtain ⟨pa, pc, rfl, hpc, hpcm, hpn⟩ := owns_slice HOWN.out
        go_wp2
        go_ret
        refine ⟨?_, HB.out⟩
        have h1 := HDG.out
        obtain rfl : ps = [] := List.length_eq_zero_iff.1 HLEN.out
        have h2 : m0 = 0 := by
          by_cases h : m0 = 0
          · exact h
          · exfalso
            rw [dgs_zero, dgs_succ h] at h1
            simp at h1
        subst h2
        rfl
      · obtain ⟨g, pc, rfl, hgB, hgl⟩ := HOWN.out.form (by omega)
        have hnmax : n ≤ 9223372036854775807 := by obtain ⟨_, _, _, h1, h2, _⟩ := owns_slice HOWN.out; omega
        have hn0' : ((n : Int) == 0) = false := by rw [beq_eq_false_iff_ne]; omega
        have hcells : ∀ j, j < n → wr.cell? ⟨g, j, none⟩ = some (strV (ps[j]?.getD [])) := by
          intro j hj
          rw [HOWN.out.cellAt j (by omega), List.getElem?_map, List.getElem?_eq_getElem (by have := HLEN.out; omega)]
          rfl
        have HCELLS := Lib.hid hcells
        clear hcells
        have hnil : ps ≠ [] := by intro e; subst e; have := HLEN.out; simp at this; omega
        have hdec : decS m0 = ps.reverse.flatten := by
          have h1 := HDG.out
          rw [dgs_zero, List.nil_append] at h1
          unfold decS
          rw [if_neg, h1]
          intro e
          have := HN00.out
          omega
        have hdl : ps.reverse.flatten.length ≤ 64 * n0 := by
          have h1 := HDG.out
          rw [dgs_zero, List.nil_append] at h1
          rw [h1]; exact HBL.out
        have HDL := Lib.hid hdl
        have HDEC := Lib.hid hdec
        clear hdec hdl
        have hb0 : Lib.IsBuilder 138 5 wr.heap.size wr.heap.size (Lib.byteCells (ps.drop n).reverse.flatten) (wr.alloc (.cells #[.pointer none, .slice none 0 0] 138)) := by
          rw [List.drop_of_length_le (by have := HLEN.out; omega)]
          exact .inl ⟨Nat.le_refl _, .slice none 0 0, heap_alloc_new wr _, World.ownsRow_nil _ _ _ _, by simp [Value.ownBlock]⟩
        have HB0 := Lib.hid hb0
        clear hb0
        obtain ⟨wq, hwq⟩ : ∃ wq : World, wq = wr := ⟨_, rfl⟩
        subst hwq
        go_wp2
        go_loopw [8] (fun iv w5 => ∃ k : Nat, k ≤ n ∧ iv = .int .i64 ((k : Int) - 1) ∧ Lib.IsBuilder 138 5 wq.heap.size wq.heap.size (Lib.byteCells (ps.drop k).reverse.flatten) w5 ∧ Below wq.heap.size wq w5) (fun iv _ => (intOf iv + 1).toNat)
        case atStart => exact ⟨n, Nat.le_refl _, rfl, HB0.out, (Below.refl _ _).alloc (Nat.le_refl _) _⟩
        case round =>
          obtain ⟨k, hk, rfl, hbk, hbe⟩ := hrel
          have HBK := Lib.hid hbk
          have HBE := Lib.hid hbe
          clear hbk hbe HB0
          by_cases hk0 : k = 0
          · subst hk0
            go_wp2_with fail
            refine (Tryz.Builder_String_any _ _ _ _ HBK.out HBE.out.size).mono ?_
            rintro e w6 ⟨rfl, hb6⟩
            go_wp2
            go_ret
            exact ⟨by rw [HDEC.out]; rfl, HB.out.trans ((HBE.out.trans hb6).mono HB.out.size)⟩
          · obtain ⟨j, rfl⟩ : ∃ j, k = j + 1 := ⟨k - 1, by omega⟩
            have hc := HCELLS.out j (by omega)
            have hc := (HBE.out.cell (p := ⟨g, j, none⟩) hgl).trans hc
            have hpj : ps.drop j = (ps[j]?.getD []) :: ps.drop (j + 1) := by
              have hj : j < ps.length := by have := HLEN.out; omega
              rw [List.drop_eq_getElem_cons hj, List.getElem?_eq_getElem hj]
              rfl
            generalize ps[j]?.getD [] = S at *
            have HPJ := Lib.hid hpj
            clear hpj
            have hsum : (ps.drop (j + 1)).reverse.flatten.length + S.length ≤ 64 * n0 := by
              have h1 := HDL.out
              rw [← List.take_append_drop j ps, HPJ.out, List.reverse_append, List.flatten_append, List.reverse_cons, List.flatten_append] at h1
              simp only [List.length_append, List.flatten_cons, List.flatten_nil, List.append_nil] at h1
              omega
            unfold strV at hc
            have HSUM := Lib.hid hsum
            clear hsum
            go_wp2_with fail
            refine (writeString _ _ _ _ _ HBK.out (by rw [Lib.byteCells_length]; have := HSUM.out; simp only [ByteArray.size, List.size_toArray]; omega) HBE.out.size).mono ?_
            rintro e w6 ⟨rfl, hb6, hbe6⟩
            have HB6 := Lib.hid hb6
            have HBE6 := Lib.hid hbe6
            clear hb6 hbe6
            go_wp2
            go_roundw
            case rel =>
              refine ⟨j, by omega, by simp, ?_, HBE.out.trans HBE6.out⟩
              have := HB6.out
              rw [Lib.strCells_eq, ← Lib.byteCells_append] at this
              rw [HPJ.out, List.reverse_cons, List.flatten_append, List.flatten_cons, List.flatten_nil, List.append_nil]
              exact .inr this
            all_goals first | (simp [intOf]; done) | (simp [intOf]; omega)
    · have hn1p : 0 < n1 := hpos.2 (by omega)
      have hn1p' : 0 < (n1 : Int) := by omega
      have hm0p : 0 < m0 := Nat.lt_of_lt_of_le (Nat.mul_pos (by omega) (Nat.pow_pos (by omega))) HPOW.out
      clear hpos
      go_wp2_with fail
      refine (l_byChunk _ _ _ _ _ HS1.out HC1.out.1 (by omega)).mono ?_
      rintro e w1 ⟨v, rfl, ⟨a2, n2, c2, l2, rfl, hs2, hc2, hv2⟩, hb⟩
      rw [HV1.out] at hv2 ⊢
      have hown1 := owns_below HOWN.out hb
      have hbe1 := HB.out.trans (hb.mono HB.out.size)
      have hr : m % 10 ^ 19 < 18446744073709551616 := Nat.lt_trans (Nat.mod_lt _ (by decide)) (by decide)
      have hn2 : n2 ≤ 536870912 := by
        have := hc2.length_le_of (by omega) HC1.out (by rw [hv2, HV1.out]; exact Nat.div_le_self _ _)
        rw [hs2.len, HS1.out.len] at this
        omega
      have hq2 : 0 < n2 ↔ 0 < m / 10 ^ 19 := by
        have := hc2.length_pos_iff (by omega)
        rw [hs2.len, hv2] at this
        exact this
      have hlr := dgs_len 19 (m % 10 ^ 19) (Nat.mod_lt _ (by decide))
      have HS2 := Lib.hid hs2
      have HC2 := Lib.hid hc2
      have HV2 := Lib.hid hv2
      have HOWN1 := Lib.hid hown1
      have HB1 := Lib.hid hbe1
      have HR := Lib.hid hr
      clear hs2 hc2 hv2 hown1 hbe1 hb hr
      generalize hmr : m % 10 ^ 19 = r at *
      have HMR := Lib.hid hmr
      clear hmr
      go_wp2_with fail
      refine (l_decimal_calls r _ HR.out).mono ?_
      rintro e w2 ⟨rfl, hb⟩
      have hown2 := owns_below HOWN1.out hb
      have hbe2 := HB1.out.trans (hb.mono HB1.out.size)
      have hs2' := HS2.out.mono hb
      have HS2' := Lib.hid hs2'
      have HOWN2 := Lib.hid hown2
      have HB2 := Lib.hid hbe2
      clear hs2' hown2 hbe2 hb
      generalize hT : dgs r = T at *
      have HT := Lib.hid hT
      clear hT
      by_cases hq : m / 10 ^ 19 = 0
      · obtain rfl : n2 = 0 := by omega
        clear hq2
        have hnb := pow_bound HPOW.out (by omega) HM0.out
        go_wp2_with (at_builtin; refine wpList_append_lies _ rfl _ _ _ rfl w.heap.size 9 i0 _ 1 16 Tryz.underlying130 hi hz0 hz1 hz2 rfl (by omega) _ n (ps.map strV) rfl (HOWN2.out.alloc _) ⟨w2.heap.size, 0, none⟩ 1 1 [strV T] rfl rfl (news_new _ _ _) ?c1 (by omega) ?c2 ?c3 ?c4 _ rfl ?_)
        case c1 => intro u hu; simp at hu; subst hu; rfl
        case c2 => unfold maxLen; omega
        case c3 => omega
        case c4 => have := HB2.out.size; simp; omega
        intro g cap w3 hown3 hgrow3 hat3 hlt3
        have HOWN3 := Lib.hid hown3
        have ho3 := owns_onlyT (HOWN2.out.alloc (.cells #[strV T] 9)) hgrow3
        have HO3 := Lib.hid ho3
        have HB3 := Lib.hid (owns_belowB (HOWN2.out.alloc (.cells #[strV T] 9)) hgrow3 (HB2.out.alloc HB2.out.size _) (by have := HB2.out.size; simp; omega))
        have HS3 := Lib.hid ((HS2'.out.mono ((Below.refl _ _).alloc (Nat.le_refl _) (.cells #[strV T] 9))).onlyT ho3 (by decide))
        clear hown3 hgrow3 ho3
        go_wp2
        go_roundg 0
        case measure => omega
        case rel =>
          refine ⟨0, n + 1, ps ++ [T], Nat.le_refl _, ⟨_, _, _, _, rfl, HS3.out, HC2.out, by rw [HV2.out]; exact hq, by omega⟩, by simpa using HOWN3.out, by simp, ?_, HB3.out, .inr hm0p⟩
          rw [← HDG.out, dgs_zero, List.reverse_append, List.flatten_append, ← HT.out, ← HMR.out, dgs_one19 hq]
          simp
      · have hn2p : 0 < (n2 : Int) := by omega
        clear hq2
        have hnb := pow_bound HPOW.out (by omega) HM0.out
        go_wp2_with fail
        rw [show (19 - (T.length : Int)) = ((19 - T.length : Nat) : Int) from by omega]
        refine (repeat0 _ (by omega) _).mono ?_
        rintro e w3 ⟨rfl, rfl⟩
        have hzl : (List.replicate (19 - T.length) (48 : UInt8)).length = 19 - T.length := List.length_replicate
        generalize hZ : List.replicate (19 - T.length) (48 : UInt8) = Z at *
        have HZ := Lib.hid hZ
        clear hZ
        have hcat : ∀ W : World, (Op.stringOp .add ⟨Z.toArray⟩ ⟨T.toArray⟩).run Tryz.prog W = .ok (.string ⟨(Z ++ T).toArray⟩) W := fun W => by
          rw [run_string_add_sum, bytes_append]
          simp only [ByteArray.size, List.size_toArray]
          omega
        go_wp2_with (at_builtin; refine wpList_append_lies _ rfl _ _ _ rfl w.heap.size 9 i0 _ 1 16 Tryz.underlying130 hi hz0 hz1 hz2 rfl (by omega) _ n (ps.map strV) rfl (HOWN2.out.alloc _) ⟨w3.heap.size, 0, none⟩ 1 1 [strV (Z ++ T)] rfl rfl (news_new _ _ _) ?c1 (by omega) ?c2 ?c3 ?c4 _ rfl ?_)
        case c1 => intro u hu; simp at hu; subst hu; rfl
        case c2 => unfold maxLen; omega
        case c3 => omega
        case c4 => have := HB2.out.size; simp; omega
        intro g cap w4 hown3 hgrow3 hat3 hlt3
        have HOWN3 := Lib.hid hown3
        have ho3 := owns_onlyT (HOWN2.out.alloc (.cells #[strV (Z ++ T)] 9)) hgrow3
        have HB3 := Lib.hid (owns_belowB (HOWN2.out.alloc (.cells #[strV (Z ++ T)] 9)) hgrow3 (HB2.out.alloc HB2.out.size _) (by have := HB2.out.size; simp; omega))
        have HS3 := Lib.hid ((HS2'.out.mono ((Below.refl _ _).alloc (Nat.le_refl _) (.cells #[strV (Z ++ T)] 9))).onlyT ho3 (by decide))
        clear hown3 hgrow3 ho3 hcat
        go_wp2
        go_roundg (m / 10 ^ 19)
        case measure => have := Nat.div_lt_self (show 0 < m by omega) (show 1 < 10 ^ 19 by decide); omega
        case rel =>
          refine ⟨m / 10 ^ 19, n + 1, ps ++ [Z ++ T], Nat.le_refl _, ⟨_, _, _, _, rfl, HS3.out, HC2.out, HV2.out, by omega⟩, by simpa using HOWN3.out, pow_step HPOW.out, ?_, HB3.out, .inr hm0p⟩
          rw [← HDG.out, dgs_split19 (Nat.pos_of_ne_zero hq), HMR.out, HT.out, HZ.out, List.reverse_append, List.flatten_append]
          simp
end Go.Proofs.YtbnomdlojmgigaaGreat
namespace Go.Proofs.YtbnomdlojmgigaaGreat
open Go.RowKit Dg
def RetN (k : IntKind) (B : Nat) (w : World) (x : Nat) (e : Ending) (w' : World) : Prop := ∃ v, e = .returned v ∧ NatV k B w' v x ∧ Below w.heap.size w w'
def RetQ (w : World) (q : Rat) (e : Ending) (w' : World) : Prop := ∃ v, e = .returned v ∧ RV w' v q ∧ Below w.heap.size w w'
theorem r_under_calls (v : Value) (q : Rat) (w : World) (h : RV w v q) : Calls Tryz.prog 90 #[v] w (RetN .u32 4294967296 w q.den) := by
  obtain ⟨vn, vd, d, rfl, ⟨a1, n1, c1, l1, rfl, hs1, hc1, hv1⟩, ⟨a2, n2, c2, l2, rfl, hs2, hc2, hv2⟩, hd⟩ := h
  have b2 : n2 ≤ 9223372036854775807 := by have := hs2.cap; have := hs2.max; omega
  have HS2 := Lib.hid hs2
  have HC2 := Lib.hid hc2
  have HV2 := Lib.hid hv2
  have HD := Lib.hid hd
  clear hs1 hc1 hv1 hs2 hc2 hv2 hd
  by_cases h0 : n2 = 0
  · subst h0
    have hl : l2 = [] := List.length_eq_zero_iff.1 HS2.out.len
    have hden : q.den = 1 := by
      have hv := HV2.out
      rw [hl] at hv
      rcases HD.out with h | h
      · have := q.den_pos; simp [val] at hv; omega
      · exact h.2
    rw [hden]
    clear hl hden
    go_enter Tryz.func90, Tryz.ntmps90
    go_wp2_with fail
    refine (r_Nat_calls _ _ (by omega) (by omega)).mono ?_
    rintro e w1 ⟨v, rfl, hv, hb, _⟩
    have HV := Lib.hid hv
    have HB := Lib.hid hb
    clear hv hb
    go_wp2
    go_ret
    exact ⟨_, rfl, HV.out, ((Below.refl _ _).alloc (Nat.le_refl _) _).trans (HB.out.mono (by simp))⟩
  · have h0' : ((n2 : Int) == 0) = false := by rw [beq_eq_false_iff_ne]; omega
    have hden : q.den = val 4294967296 l2 := by
      have hpos := HC2.out.pos (by omega) (by rw [HS2.out.len]; omega)
      have hv := HV2.out
      rcases HD.out with h | h
      · rw [hv, h]
      · omega
    rw [hden]
    clear hden
    go_enter Tryz.func90, Tryz.ntmps90
    go_wp2
    go_ret
    have hb : Below w.heap.size w (w.alloc (.cells #[Value.bool (ng q), .slice a1 n1 c1, .slice a2 n2 c2] 53)) := (Below.refl _ _).alloc (Nat.le_refl _) _
    exact ⟨_, rfl, ⟨_, _, _, _, rfl, HS2.out.mono hb, HC2.out, rfl⟩, hb⟩
theorem store3 {w : World} {g : Nat} (hg : NoInt w g) {s : Bool} {v1 v2 : Value} {x y : Nat} (h1 : NatV .u32 4294967296 w v1 x) (h2 : NatV .u32 4294967296 w v2 y) :
    NatV .u32 4294967296 (((w.setCell ⟨g, 0, none⟩ (.bool s)).setCell ⟨g, 1, none⟩ v1).setCell ⟨g, 2, none⟩ v2) v1 x ∧ NatV .u32 4294967296 (((w.setCell ⟨g, 0, none⟩ (.bool s)).setCell ⟨g, 1, none⟩ v1).setCell ⟨g, 2, none⟩ v2) v2 y := by
  obtain ⟨_, _, _, _, e1, _⟩ := id h1
  have g1 := hg.set 0 (.bool s) (fun k x => by simp)
  have g2 := g1.set 1 v1 (fun k x => by rw [e1]; simp)
  exact ⟨((h1.box hg 0 _).box g1 1 _).box g2 2 _, ((h2.box hg 0 _).box g1 1 _).box g2 2 _⟩
theorem below_store3 {B : Nat} {w0 w : World} {g : Nat} (h : Below B w0 w) (hg : B ≤ g) (u1 u2 u3 : Value) : Below B w0 (((w.setCell ⟨g, 0, none⟩ u1).setCell ⟨g, 1, none⟩ u2).setCell ⟨g, 2, none⟩ u3) :=
  ((h.setCell (p := ⟨g, 0, none⟩) hg _).setCell (p := ⟨g, 1, none⟩) hg _).setCell (p := ⟨g, 2, none⟩) hg _
theorem ng_zero : ng 0 = false := by decide
theorem load_R {w : World} {g : Nat} {u0 u1 u2 : Value} (h : Box3 w g u0 u1 u2) : (loadVar 53 ⟨g, 0, none⟩).run Tryz.prog w = .ok (.agg #[u0, u1, u2]) w := by
  obtain ⟨h0, h1, h2⟩ := h.cells
  simp [go_sem, h0, h1, h2]
theorem ret_R {fn : Func} {p : Tmp} {w0 w1 w : World} {g : Nat} {q : Rat} {s : Bool} {v1 v2 u0 u1 u2 : Value} {d : Nat} {a : Act} (hr : fn.results = #[.cell p 53]) (ha : a.tmps.getD p undef = .pointer (some ⟨g, 0, none⟩)) (hdef : a.defers = [])
    (hbox : Box3 w1 g u0 u1 u2) (hni : NoInt w1 g) (hw : w = ((w1.setCell ⟨g, 0, none⟩ (.bool s)).setCell ⟨g, 1, none⟩ v1).setCell ⟨g, 2, none⟩ v2)
    (hs : s = ng q) (h1 : NatV .u32 4294967296 w1 v1 q.num.natAbs) (h2 : NatV .u32 4294967296 w1 v2 d) (hd : d = q.den ∨ d = 0 ∧ q.den = 1) (hb : Below w0.heap.size w0 w1) (hg : w0.heap.size ≤ g) :
    bodyPost Tryz.prog fn (RetQ w0 q) .ret a w := by
  subst hw
  subst hs
  have hst := store3 (s := ng q) hni h1 h2
  refine bodyPost_ret (v := .agg #[.bool (ng q), v1, v2]) ?_ hdef ⟨_, rfl, ⟨v1, v2, d, rfl, hst.1, hst.2, hd⟩, below_store3 hb hg _ _ _⟩
  rw [results_cell1 hr, ha]
  exact load_R (hbox.set _ _ _)
theorem r_made_zero (neg : Bool) (a1 : Option Addr) (c1 : Nat) (vd : Value) (w : World) : Calls Tryz.prog 92 #[.bool neg, .slice a1 0 c1, vd] w (RetQ w 0) := by
  go_enter Tryz.func92, Tryz.ntmps92
  go_wp2_with fail
  have hx0 := Box3.new w (.bool false) (.slice none 0 0) (.slice none 0 0) 53
  have hb0 : Below w.heap.size w ((w.alloc (.cells #[.bool false, .slice none 0 0, .slice none 0 0] 53)).alloc (.cells #[] 150)) := ((Below.refl _ _).alloc (Nat.le_refl _) _).alloc (by simp) _
  refine (r_Nat_calls _ _ (by omega) (by omega)).mono ?_
  rintro e w1 ⟨v, rfl, hv, hb, _⟩
  obtain ⟨a2, n2, c2, l2, rfl, hs2, hc2, hv2⟩ := id hv
  have hx1 := (hx0.alloc _).below hb
  obtain ⟨hc0, hc1, hc2⟩ := hx1.cells
  have hf := hx1.free
  have hlt : w.heap.size + 1 < w1.heap.size := by have := hb.size; simp at this; omega
  have hbel := hb0.trans (hb.mono (by simp; omega))
  have HV := Lib.hid hv
  have HB := Lib.hid hbel
  have HX := Lib.hid hx1
  clear hb0 hv hb hs2 hv2 hbel hx0 hx1
  go_wp2
  have h0 : NatV .u32 4294967296 w1 (.slice (some ⟨w.heap.size + 1, 0, none⟩) 0 0) 0 := ⟨_, _, _, [], rfl, Sl.empty _ _ _ _ (by omega) (fun e => by cases e), Canon.nil _, rfl⟩
  exact ret_R rfl rfl rfl HX.out (HX.out.noInt (by simp) (by simp) (by simp)) rfl ng_zero.symm h0 HV.out (.inl rfl) HB.out (Nat.le_refl _)
theorem NatV.sz {w : World} {v : Value} {x K : Nat} (h : NatV .u32 4294967296 w v x) (hx : x < 4294967296 ^ K) : NatS .u32 4294967296 K w v x := by
  obtain ⟨ao, n, c, l, e, hs, hc, hv⟩ := h
  refine ⟨ao, n, c, l, e, hs, hc, hv, ?_⟩
  have := hc.length_le (by omega) (by rw [hv]; exact hx)
  rwa [hs.len] at this
theorem r_made_pos (neg : Bool) (a1 a2 : Option Addr) (n1 c1 n2 c2 : Nat) (l1 l2 : List Nat) (w : World) (hs1 : Sl .u32 w a1 n1 c1 l1) (hc1 : Canon 4294967296 l1) (hs2 : Sl .u32 w a2 n2 c2 l2) (hc2 : Canon 4294967296 l2)
    (hn0 : 0 < n1) (hd0 : 0 < n2) (hn1 : n1 ≤ 536870912) (hn2 : n2 ≤ 536870912) :
    Calls Tryz.prog 92 #[.bool neg, .slice a1 n1 c1, .slice a2 n2 c2] w (RetQ w (mkQ neg (val 4294967296 l1) (val 4294967296 l2))) := by
  have hv1 : 0 < val 4294967296 l1 := hc1.pos (by omega) (by rw [hs1.len]; exact hn0)
  have hv2 : 0 < val 4294967296 l2 := hc2.pos (by omega) (by rw [hs2.len]; exact hd0)
  generalize hx : val 4294967296 l1 = x at *
  generalize hy : val 4294967296 l2 = y at *
  have hq1 := mkQ_natAbs neg x y (by omega)
  have hq2 := mkQ_den neg x y (by omega)
  have hq3 := mkQ_ng neg x y (by omega) (by omega)
  generalize mkQ neg x y = q at *
  have hg0 := Nat.gcd_pos_of_pos_left y hv1
  have hgx : Nat.gcd x y ≤ x := Nat.le_of_dvd hv1 (Nat.gcd_dvd_left x y)
  have H1 := Lib.hid hs1
  have H2 := Lib.hid hs2
  have HC1 := Lib.hid hc1
  have HC2 := Lib.hid hc2
  have HX := Lib.hid hx
  have HY := Lib.hid hy
  have HQ1 := Lib.hid hq1
  have HQ2 := Lib.hid hq2
  have HQ3 := Lib.hid hq3
  have HGX := Lib.hid hgx
  clear hs1 hs2 hc1 hc2 hx hy hq1 hq2 hq3 hgx
  generalize hG : Nat.gcd x y = G at *
  have HG := Lib.hid hG
  clear hG
  have h0' : ((n1 : Int) == 0) = false := by rw [beq_eq_false_iff_ne]; omega
  have hb0 : Below w.heap.size w (w.alloc (.cells #[.bool false, .slice none 0 0, .slice none 0 0] 53)) := (Below.refl _ _).alloc (Nat.le_refl _) _
  have hx0 := Box3.new w (.bool false) (.slice none 0 0) (.slice none 0 0) 53
  have HB0 := Lib.hid hb0
  have HX0 := Lib.hid hx0
  clear hb0 hx0
  go_enter Tryz.func92, Tryz.ntmps92
  go_wp2_with fail
  refine (r_Divisor_calls _ _ _ _ _ _ _ _ _ (H1.out.mono HB0.out) (H2.out.mono HB0.out) HC1.out HC2.out hn1 hn2).mono ?_
  rintro e w1 ⟨vg, rfl, ⟨a3, n3, c3, l3, rfl, hs3, hc3, hv3⟩, hb1⟩
  rw [HX.out, HY.out, HG.out] at hv3
  have hn3 : n3 ≤ 536870912 := by
    have := hc3.length_le_of (by omega) HC1.out (by rw [hv3, HX.out]; exact HGX.out)
    rw [hs3.len, H1.out.len] at this
    omega
  have hx1 := HX0.out.below hb1
  have hbel1 := HB0.out.trans (hb1.mono (by simp))
  have HS3 := Lib.hid hs3
  have HC3 := Lib.hid hc3
  have HV3 := Lib.hid hv3
  have HX1 := Lib.hid hx1
  have HB1 := Lib.hid hbel1
  clear hs3 hc3 hv3 hx1 hbel1 hb1
  go_wp2_with fail
  refine (r_Nat_calls _ _ (by omega) (by omega)).mono ?_
  rintro e w2 ⟨v4, rfl, ⟨a4, n4, c4, l4, rfl, hs4, hc4, hv4⟩, hb2, _⟩
  rw [show Int.toNat 1 = 1 from rfl] at hv4
  have hx2 := HX1.out.below hb2
  have hbel2 := HB1.out.trans (hb2.mono HB1.out.size)
  have hs3' := HS3.out.mono hb2
  have HS4 := Lib.hid hs4
  have HC4 := Lib.hid hc4
  have HV4 := Lib.hid hv4
  have HX2 := Lib.hid hx2
  have HB2 := Lib.hid hbel2
  have HS3' := Lib.hid hs3'
  clear hs4 hc4 hv4 hx2 hbel2 hb2 hs3'
  go_wp2_with fail
  refine (r_Order_calls _ _ _ _ _ _ _ _ _ HS3'.out HS4.out HC3.out HC4.out).mono ?_
  rintro e w3 ⟨q3, rfl, rfl⟩
  rw [HV3.out, HV4.out]
  have hbel3 : Below w.heap.size w (w2.drewN q3) := belowN HB2.out q3
  have hx3 : Box3 (w2.drewN q3) w.heap.size (.bool false) (.slice none 0 0) (.slice none 0 0) := HX2.out
  have HB3 := Lib.hid hbel3
  have HX3 := Lib.hid hx3
  have hf3 := hx3.free
  obtain ⟨k0, k1, k2⟩ := hx3.cells
  by_cases hG1 : G = 1
  · subst hG1
    have hord : ordN 1 1 = 0 := by decide
    have HORD := Lib.hid hord
    clear hord
    rw [HORD.out]
    clear hbel3 hx3
    go_wp2
    refine ret_R rfl rfl rfl HX3.out (HX3.out.noInt (by simp) (by simp) (by simp)) rfl HQ3.out.symm (d := y) ?_ ?_ (.inl ?_) HB3.out (Nat.le_refl _)
    · rw [HQ1.out, Nat.div_one]; exact ⟨_, _, _, _, rfl, H1.out.mono HB3.out, HC1.out, HX.out⟩
    · exact ⟨_, _, _, _, rfl, H2.out.mono HB3.out, HC2.out, HY.out⟩
    · rw [HQ2.out, Nat.div_one]
  · have hord : ordN G 1 = 1 := by unfold ordN; rw [if_neg (by omega), if_pos (by omega)]
    have HORD := Lib.hid hord
    clear hord
    rw [HORD.out]
    clear hbel3 hx3 hf3 k0 k1 k2
    go_wp2_with fail
    refine (r_Quotient_calls _ _ _ _ _ _ _ _ _ (H1.out.mono HB3.out) (HS3'.out.mono (belowN (Below.refl _ _) q3)) HC1.out HC3.out hn1 hn3 (by rw [HV3.out]; exact hg0)).mono ?_
    rintro e w4 ⟨v5, v6, rfl, hv5, _, hb4⟩
    rw [HX.out, HV3.out] at hv5
    obtain ⟨a5, n5, c5, l5, rfl, _⟩ := id hv5
    have hx4 := HX3.out.below hb4
    have hbel4 := HB3.out.trans (hb4.mono HB3.out.size)
    have hs3'' := (HS3'.out.mono (belowN (Below.refl _ _) q3)).mono hb4
    have HV5 := Lib.hid hv5
    have HX4 := Lib.hid hx4
    have HB4 := Lib.hid hbel4
    have HS3'' := Lib.hid hs3''
    clear hv5 hx4 hbel4 hb4 hs3''
    go_wp2_with fail
    refine (r_Quotient_calls _ _ _ _ _ _ _ _ _ (H2.out.mono HB4.out) HS3''.out HC2.out HC3.out hn2 hn3 (by rw [HV3.out]; exact hg0)).mono ?_
    rintro e w5 ⟨v7, v8, rfl, hv7, _, hb5⟩
    rw [HY.out, HV3.out] at hv7
    obtain ⟨a7, n7, c7, l7, rfl, _⟩ := id hv7
    have hx5 := HX4.out.below hb5
    have hbel5 := HB4.out.trans (hb5.mono HB4.out.size)
    have hv5' := HV5.out.mono hb5
    have hf5 := hx5.free
    obtain ⟨k0, k1, k2⟩ := hx5.cells
    have HV7 := Lib.hid hv7
    have HX5 := Lib.hid hx5
    have HB5 := Lib.hid hbel5
    have HV5' := Lib.hid hv5'
    clear hv7 hx5 hbel5 hb5 hv5'
    go_wp2
    refine ret_R rfl rfl rfl HX5.out (HX5.out.noInt (by simp) (by simp) (by simp)) rfl HQ3.out.symm (d := y / G) ?_ HV7.out (.inl HQ2.out.symm) HB5.out (Nat.le_refl _)
    rw [HQ1.out]; exact HV5'.out
theorem NatV.zero_of {w : World} {v : Value} (h : NatV .u32 4294967296 w v 0) : ∃ a c, v = .slice a 0 c := by
  obtain ⟨ao, n, c, l, e, hs, hc, hv⟩ := h
  have := hc.nil_of (by omega) hv
  subst this
  have := hs.len
  simp at this
  subst this
  exact ⟨_, _, e⟩
theorem r_made_calls (neg : Bool) (vn vd : Value) (n d K : Nat) (w : World) (hn : NatV .u32 4294967296 w vn n) (hd : NatV .u32 4294967296 w vd d) (hd0 : d ≠ 0) (hK : K ≤ 536870912)
    (h1 : n < 4294967296 ^ K) (h2 : d < 4294967296 ^ K) : Calls Tryz.prog 92 #[.bool neg, vn, vd] w (RetQ w (mkQ neg n d)) := by
  rcases Nat.eq_zero_or_pos n with h | h
  · subst h
    obtain ⟨a, c, rfl⟩ := hn.zero_of
    rw [mkQ_zero]
    exact r_made_zero _ _ _ _ _
  · obtain ⟨a1, n1, c1, l1, rfl, hs1, hc1, rfl, hn1⟩ := hn.sz h1
    obtain ⟨a2, n2, c2, l2, rfl, hs2, hc2, rfl, hn2⟩ := hd.sz h2
    refine r_made_pos neg _ _ _ _ _ _ _ _ _ hs1 hc1 hs2 hc2 ?_ ?_ (by omega) (by omega)
    · rw [← hs1.len]; exact (hc1.length_pos_iff (by omega)).2 h
    · rw [← hs2.len]; exact (hc2.length_pos_iff (by omega)).2 (by omega)
end Go.Proofs.YtbnomdlojmgigaaGreat
