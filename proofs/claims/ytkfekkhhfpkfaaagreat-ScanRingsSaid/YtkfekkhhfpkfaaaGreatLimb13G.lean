/-
  The contracts of the program's naturals, thirteenth part: text.
-/
import Derived.Test.YtkfekkhhfpkfaaaGreatPkLimbCG
import Derived.Test.YtkfekkhhfpkfaaaGreatPkMemG
import Derived.Test.YtkfekkhhfpkfaaaGreatPkNatG
set_option linter.unusedSimpArgs false
set_option linter.unusedVariables false
set_option maxRecDepth 100000
set_option maxHeartbeats 4000000
namespace Go.Proofs.YtkfekkhhfpkfaaaGreat
open Go.RowKit Dg
theorem l_byChunk (ao : Option Addr) (n c : Nat) (l : List Nat) (w : World) (hs : Sl .u64 w ao n c l) (hd : Digs 18446744073709551616 l) (hn : n ≤ 1099511627776) :
    Calls Tryz.prog 157 #[.slice ao n c, .int .u64 10000000000000000000] w (RetNatD .u64 18446744073709551616 w (val 18446744073709551616 l / 10 ^ 19) (val 18446744073709551616 l % 10 ^ 19)) :=
  l_byWord_calls ao n c l (10 ^ 19) w hs hd (by decide) (by decide) hn
theorem string_info : (Tryz.prog.info? 9).map (fun i => (i.zero, i.size, i.bytes)) = some (some (.string ⟨#[]⟩), 1, 16) := by kernel_rfl
theorem dgs_split19 {m : Nat} (hq : 0 < m / 10 ^ 19) : dgs m = dgs (m / 10 ^ 19) ++ (List.replicate (19 - (dgs (m % 10 ^ 19)).length) 48 ++ dgs (m % 10 ^ 19)) := by
  have h := dgs_split 19 hq
  rw [h, ← pad_mod 19 m, pad_zeros 19 (m % 10 ^ 19) (Nat.mod_lt _ (by decide))]
theorem dgs_one19 {m : Nat} (hq : m / 10 ^ 19 = 0) : dgs (m % 10 ^ 19) = dgs m := by
  rw [Nat.mod_eq_of_lt]
  rcases Nat.lt_or_ge m (10 ^ 19) with h | h
  · exact h
  · have := Nat.div_pos h (by decide); omega
theorem pow_step {m n m0 : Nat} (h : m * 2 ^ n ≤ m0) : m / 10 ^ 19 * 2 ^ (n + 1) ≤ m0 := by
  have h1 : m / 10 ^ 19 * 2 ≤ m := by
    have := Nat.div_mul_le_self m (10 ^ 19)
    have h2 : m / 10 ^ 19 * 2 ≤ m / 10 ^ 19 * 10 ^ 19 := Nat.mul_le_mul_left _ (by decide)
    omega
  generalize m / 10 ^ 19 = q at *
  have h2 : q * 2 ^ (n + 1) = q * 2 * 2 ^ n := by rw [Nat.pow_succ, Nat.mul_assoc, Nat.mul_comm (2 ^ n) 2]
  have h3 : q * 2 * 2 ^ n ≤ m * 2 ^ n := Nat.mul_le_mul_right _ h1
  omega
theorem pow_bound {m n m0 K : Nat} (h : m * 2 ^ n ≤ m0) (hm : 0 < m) (h0 : m0 < 18446744073709551616 ^ K) : n < 64 * K := by
  have h1 : 2 ^ n ≤ m * 2 ^ n := Nat.le_mul_of_pos_left _ hm
  have h2 : (18446744073709551616 : Nat) ^ K = 2 ^ (64 * K) := by rw [show (18446744073709551616 : Nat) = 2 ^ 64 from rfl, ← Nat.pow_mul]
  rw [h2] at h0
  exact (Nat.pow_lt_pow_iff_right (by omega)).1 (Nat.lt_of_le_of_lt (Nat.le_trans h1 h) h0)
theorem l_text_calls (ao : Option Addr) (n0 c0 : Nat) (l0 : List Nat) (w : World) (hs : Sl .u64 w ao n0 c0 l0) (hd : Canon 18446744073709551616 l0) (hn : n0 ≤ 536870912) :
    Calls Tryz.prog 108 #[.slice ao n0 c0] w (RetS w (decS (val 18446744073709551616 l0))) := by
  have hm0 := val_lt (by omega) hd.1
  rw [hs.len] at hm0
  have hbl : (dgs (val 18446744073709551616 l0)).length ≤ 64 * n0 := by
    have h1 := dgs_length (val 18446744073709551616 l0)
    have h2 : bl (val 18446744073709551616 l0) ≤ 64 * n0 := bl_le_of_lt (by rwa [show (18446744073709551616 : Nat) = 2 ^ 64 from rfl, ← Nat.pow_mul] at hm0)
    omega
  have hst : NatS .u64 18446744073709551616 536870912 w (.slice ao n0 c0) (val 18446744073709551616 l0) := ⟨_, _, _, _, rfl, hs, hd, rfl, hn⟩
  generalize hM : val 18446744073709551616 l0 = m0 at *
  have HM0 := Lib.hid hm0
  have HST := Lib.hid hst
  have HBL := Lib.hid hbl
  clear hs hd hM hm0 hst hbl
  obtain ⟨i0, hi, hz0, hz1, hz2⟩ := info_parts string_info
  go_enter Tryz.func108, Tryz.ntmps108
  go_wp2
  go_loopg [0, 3] m0 (fun g av pv wr => ∃ (m n : Nat) (ps : List (List UInt8)), m ≤ g ∧ NatS .u64 18446744073709551616 536870912 wr av m ∧ wr.ownsRow w.heap.size 9 1 pv n (ps.map strV) ∧ m * 2 ^ n ≤ m0 ∧ dgs m ++ ps.reverse.flatten = dgs m0 ∧ Below w.heap.size w wr ∧ (n = 0 ∨ 0 < m0))
  case atStart => exact ⟨m0, 0, [], Nat.le_refl _, HST.out, World.ownsRow_nil _ _ _ _, by simp, by simp, Below.refl _ _, .inl rfl⟩
  case round =>
    obtain ⟨m, n, ps, hmg, ⟨a1, n1, c1, l1, rfl, hs1, hc1, hv1, hn1⟩, hown, hpow, hdg, hbel, hn00⟩ := hrel
    have hlen := hown.1
    rw [List.length_map, Nat.mul_one] at hlen
    have HS1 := Lib.hid hs1
    have HC1 := Lib.hid hc1
    have HV1 := Lib.hid hv1
    have HOWN := Lib.hid hown
    have HPOW := Lib.hid hpow
    have HDG := Lib.hid hdg
    have HB := Lib.hid hbel
    have HLEN := Lib.hid hlen
    have hpos : 0 < n1 ↔ 0 < m := by
      have := hc1.length_pos_iff (by omega)
      rw [hs1.len, hv1] at this
      exact this
    have HN00 := Lib.hid hn00
    clear hs1 hc1 hv1 hown hpow hdg hbel HST hlen hn00
    by_cases h0 : m = 0
    · subst h0
      obtain rfl : n1 = 0 := by omega
      clear hpos
      by_cases hn0 : n = 0
      · subst hn0
        obtain ⟨pa, pc, rfl, hpc, hpcm, hpn⟩ := owns_slice HOWN.out
        go_wp2
        go_ret
        refine ⟨?_, HB.out⟩
        have h1 := HDG.out
        obtain rfl : ps = [] := List.length_eq_zero_iff.1 HLEN.out
        have h2 : m0 = 0 := by
          by_cases h : m0 = 0
          · exact h
          · exfalso
            rw [dgs_zero, dgs_succ h] at h1
            simp at h1
        subst h2
        rfl
      · obtain ⟨g, pc, rfl, hgB, hgl⟩ := HOWN.out.form (by omega)
        have hnmax : n ≤ 9223372036854775807 := by obtain ⟨_, _, _, h1, h2, _⟩ := owns_slice HOWN.out; omega
        have hn0' : ((n : Int) == 0) = false := by rw [beq_eq_false_iff_ne]; omega
        have hcells : ∀ j, j < n → wr.cell? ⟨g, j, none⟩ = some (strV (ps[j]?.getD [])) := by
          intro j hj
          rw [HOWN.out.cellAt j (by omega), List.getElem?_map, List.getElem?_eq_getElem (by have := HLEN.out; omega)]
          rfl
        have HCELLS := Lib.hid hcells
        clear hcells
        have hnil : ps ≠ [] := by intro e; subst e; have := HLEN.out; simp at this; omega
        have hdec : decS m0 = ps.reverse.flatten := by
          have h1 := HDG.out
          rw [dgs_zero, List.nil_append] at h1
          unfold decS
          rw [if_neg, h1]
          intro e
          have := HN00.out
          omega
        have hdl : ps.reverse.flatten.length ≤ 64 * n0 := by
          have h1 := HDG.out
          rw [dgs_zero, List.nil_append] at h1
          rw [h1]; exact HBL.out
        have HDL := Lib.hid hdl
        have HDEC := Lib.hid hdec
        clear hdec hdl
        have hb0 : Lib.IsBuilder 215 5 wr.heap.size wr.heap.size (Lib.byteCells (ps.drop n).reverse.flatten) (wr.alloc (.cells #[.pointer none, .slice none 0 0] 215)) := by
          rw [List.drop_of_length_le (by have := HLEN.out; omega)]
          exact .inl ⟨Nat.le_refl _, .slice none 0 0, heap_alloc_new wr _, World.ownsRow_nil _ _ _ _, by simp [Value.ownBlock]⟩
        have HB0 := Lib.hid hb0
        clear hb0
        obtain ⟨wq, hwq⟩ : ∃ wq : World, wq = wr := ⟨_, rfl⟩
        subst hwq
        go_wp2
        go_loopw [8] (fun iv w5 => ∃ k : Nat, k ≤ n ∧ iv = .int .i64 ((k : Int) - 1) ∧ Lib.IsBuilder 215 5 wq.heap.size wq.heap.size (Lib.byteCells (ps.drop k).reverse.flatten) w5 ∧ Below wq.heap.size wq w5) (fun iv _ => (intOf iv + 1).toNat)
        case atStart => exact ⟨n, Nat.le_refl _, rfl, HB0.out, (Below.refl _ _).alloc (Nat.le_refl _) _⟩
        case round =>
          obtain ⟨k, hk, rfl, hbk, hbe⟩ := hrel
          have HBK := Lib.hid hbk
          have HBE := Lib.hid hbe
          clear hbk hbe HB0
          by_cases hk0 : k = 0
          · subst hk0
            go_wp2_with fail
            refine (Tryz.Builder_String_any _ _ _ _ HBK.out HBE.out.size).mono ?_
            rintro e w6 ⟨rfl, hb6⟩
            go_wp2
            go_ret
            exact ⟨by rw [HDEC.out]; rfl, HB.out.trans ((HBE.out.trans hb6).mono HB.out.size)⟩
          · obtain ⟨j, rfl⟩ : ∃ j, k = j + 1 := ⟨k - 1, by omega⟩
            have hc := HCELLS.out j (by omega)
            have hc := (HBE.out.cell (p := ⟨g, j, none⟩) hgl).trans hc
            have hpj : ps.drop j = (ps[j]?.getD []) :: ps.drop (j + 1) := by
              have hj : j < ps.length := by have := HLEN.out; omega
              rw [List.drop_eq_getElem_cons hj, List.getElem?_eq_getElem hj]
              rfl
            generalize ps[j]?.getD [] = S at *
            have HPJ := Lib.hid hpj
            clear hpj
            have hsum : (ps.drop (j + 1)).reverse.flatten.length + S.length ≤ 64 * n0 := by
              have h1 := HDL.out
              rw [← List.take_append_drop j ps, HPJ.out, List.reverse_append, List.flatten_append, List.reverse_cons, List.flatten_append] at h1
              simp only [List.length_append, List.flatten_cons, List.flatten_nil, List.append_nil] at h1
              omega
            unfold strV at hc
            have HSUM := Lib.hid hsum
            clear hsum
            go_wp2_with fail
            refine (writeString _ _ _ _ _ HBK.out (by rw [Lib.byteCells_length]; have := HSUM.out; simp only [ByteArray.size, List.size_toArray]; omega) HBE.out.size).mono ?_
            rintro e w6 ⟨rfl, hb6, hbe6⟩
            have HB6 := Lib.hid hb6
            have HBE6 := Lib.hid hbe6
            clear hb6 hbe6
            go_wp2
            go_roundw
            case rel =>
              refine ⟨j, by omega, by simp, ?_, HBE.out.trans HBE6.out⟩
              have := HB6.out
              rw [Lib.strCells_eq, ← Lib.byteCells_append] at this
              rw [HPJ.out, List.reverse_cons, List.flatten_append, List.flatten_cons, List.flatten_nil, List.append_nil]
              exact .inr this
            all_goals first | (simp [intOf]; done) | (simp [intOf]; omega)
    · have hn1p : 0 < n1 := hpos.2 (by omega)
      have hn1p' : 0 < (n1 : Int) := by omega
      have hm0p : 0 < m0 := Nat.lt_of_lt_of_le (Nat.mul_pos (by omega) (Nat.pow_pos (by omega))) HPOW.out
      clear hpos
      go_wp2_with fail
      refine (l_byChunk _ _ _ _ _ HS1.out HC1.out.1 (by omega)).mono ?_
      rintro e w1 ⟨v, rfl, ⟨a2, n2, c2, l2, rfl, hs2, hc2, hv2⟩, hb⟩
      rw [HV1.out] at hv2 ⊢
      have hown1 := owns_below HOWN.out hb
      have hbe1 := HB.out.trans (hb.mono HB.out.size)
      have hr : m % 10 ^ 19 < 18446744073709551616 := Nat.lt_trans (Nat.mod_lt _ (by decide)) (by decide)
      have hn2 : n2 ≤ 536870912 := by
        have := hc2.length_le_of (by omega) HC1.out (by rw [hv2, HV1.out]; exact Nat.div_le_self _ _)
        rw [hs2.len, HS1.out.len] at this
        omega
      have hq2 : 0 < n2 ↔ 0 < m / 10 ^ 19 := by
        have := hc2.length_pos_iff (by omega)
        rw [hs2.len, hv2] at this
        exact this
      have hlr := dgs_len 19 (m % 10 ^ 19) (Nat.mod_lt _ (by decide))
      have HS2 := Lib.hid hs2
      have HC2 := Lib.hid hc2
      have HV2 := Lib.hid hv2
      have HOWN1 := Lib.hid hown1
      have HB1 := Lib.hid hbe1
      have HR := Lib.hid hr
      clear hs2 hc2 hv2 hown1 hbe1 hb hr
      generalize hmr : m % 10 ^ 19 = r at *
      have HMR := Lib.hid hmr
      clear hmr
      go_wp2_with fail
      refine (l_decimal_calls r _ HR.out).mono ?_
      rintro e w2 ⟨rfl, hb⟩
      have hown2 := owns_below HOWN1.out hb
      have hbe2 := HB1.out.trans (hb.mono HB1.out.size)
      have hs2' := HS2.out.mono hb
      have HS2' := Lib.hid hs2'
      have HOWN2 := Lib.hid hown2
      have HB2 := Lib.hid hbe2
      clear hs2' hown2 hbe2 hb
      generalize hT : dgs r = T at *
      have HT := Lib.hid hT
      clear hT
      by_cases hq : m / 10 ^ 19 = 0
      · obtain rfl : n2 = 0 := by omega
        clear hq2
        have hnb := pow_bound HPOW.out (by omega) HM0.out
        go_wp2_with (at_builtin; refine wpList_append_lies _ rfl _ _ _ rfl w.heap.size 9 i0 _ 1 16 Tryz.underlying207 hi hz0 hz1 hz2 rfl (by omega) _ n (ps.map strV) rfl (HOWN2.out.alloc _) ⟨w2.heap.size, 0, none⟩ 1 1 [strV T] rfl rfl (news_new _ _ _) ?c1 (by omega) ?c2 ?c3 ?c4 _ rfl ?_)
        case c1 => intro u hu; simp at hu; subst hu; rfl
        case c2 => unfold maxLen; omega
        case c3 => omega
        case c4 => have := HB2.out.size; simp; omega
        intro g cap w3 hown3 hgrow3 hat3 hlt3
        have HOWN3 := Lib.hid hown3
        have ho3 := owns_onlyT (HOWN2.out.alloc (.cells #[strV T] 9)) hgrow3
        have HO3 := Lib.hid ho3
        have HB3 := Lib.hid (owns_belowB (HOWN2.out.alloc (.cells #[strV T] 9)) hgrow3 (HB2.out.alloc HB2.out.size _) (by have := HB2.out.size; simp; omega))
        have HS3 := Lib.hid ((HS2'.out.mono ((Below.refl _ _).alloc (Nat.le_refl _) (.cells #[strV T] 9))).onlyT ho3 (by decide))
        clear hown3 hgrow3 ho3
        go_wp2
        go_roundg 0
        case measure => omega
        case rel =>
          refine ⟨0, n + 1, ps ++ [T], Nat.le_refl _, ⟨_, _, _, _, rfl, HS3.out, HC2.out, by rw [HV2.out]; exact hq, by omega⟩, by simpa using HOWN3.out, by simp, ?_, HB3.out, .inr hm0p⟩
          rw [← HDG.out, dgs_zero, List.reverse_append, List.flatten_append, ← HT.out, ← HMR.out, dgs_one19 hq]
          simp
      · have hn2p : 0 < (n2 : Int) := by omega
        clear hq2
        have hnb := pow_bound HPOW.out (by omega) HM0.out
        go_wp2_with fail
        rw [show (19 - (T.length : Int)) = ((19 - T.length : Nat) : Int) from by omega]
        refine (repeat0 _ (by omega) _).mono ?_
        rintro e w3 ⟨rfl, rfl⟩
        have hzl : (List.replicate (19 - T.length) (48 : UInt8)).length = 19 - T.length := List.length_replicate
        generalize hZ : List.replicate (19 - T.length) (48 : UInt8) = Z at *
        have HZ := Lib.hid hZ
        clear hZ
        have hcat : ∀ W : World, (Op.stringOp .add ⟨Z.toArray⟩ ⟨T.toArray⟩).run Tryz.prog W = .ok (.string ⟨(Z ++ T).toArray⟩) W := fun W => by
          rw [run_string_add_sum, bytes_append]
          simp only [ByteArray.size, List.size_toArray]
          omega
        go_wp2_with (at_builtin; refine wpList_append_lies _ rfl _ _ _ rfl w.heap.size 9 i0 _ 1 16 Tryz.underlying207 hi hz0 hz1 hz2 rfl (by omega) _ n (ps.map strV) rfl (HOWN2.out.alloc _) ⟨w3.heap.size, 0, none⟩ 1 1 [strV (Z ++ T)] rfl rfl (news_new _ _ _) ?c1 (by omega) ?c2 ?c3 ?c4 _ rfl ?_)
        case c1 => intro u hu; simp at hu; subst hu; rfl
        case c2 => unfold maxLen; omega
        case c3 => omega
        case c4 => have := HB2.out.size; simp; omega
        intro g cap w4 hown3 hgrow3 hat3 hlt3
        have HOWN3 := Lib.hid hown3
        have ho3 := owns_onlyT (HOWN2.out.alloc (.cells #[strV (Z ++ T)] 9)) hgrow3
        have HB3 := Lib.hid (owns_belowB (HOWN2.out.alloc (.cells #[strV (Z ++ T)] 9)) hgrow3 (HB2.out.alloc HB2.out.size _) (by have := HB2.out.size; simp; omega))
        have HS3 := Lib.hid ((HS2'.out.mono ((Below.refl _ _).alloc (Nat.le_refl _) (.cells #[strV (Z ++ T)] 9))).onlyT ho3 (by decide))
        clear hown3 hgrow3 ho3 hcat
        go_wp2
        go_roundg (m / 10 ^ 19)
        case measure => have := Nat.div_lt_self (show 0 < m by omega) (show 1 < 10 ^ 19 by decide); omega
        case rel =>
          refine ⟨m / 10 ^ 19, n + 1, ps ++ [Z ++ T], Nat.le_refl _, ⟨_, _, _, _, rfl, HS3.out, HC2.out, HV2.out, by omega⟩, by simpa using HOWN3.out, pow_step HPOW.out, ?_, HB3.out, .inr hm0p⟩
          rw [← HDG.out, dgs_split19 (Nat.pos_of_ne_zero hq), HMR.out, HT.out, HZ.out, List.reverse_append, List.flatten_append]
          simp
end Go.Proofs.YtkfekkhhfpkfaaaGreat
