/-
  The contracts of the program's naturals, seventh part: take.
-/
import Derived.Test.YtlfnapfnpkhggaaGreatPkLimbA
import Derived.Test.YtlfnapfnpkhggaaGreatPkMem
import Derived.Test.YtlfnapfnpkhggaaGreatPkNat
set_option linter.unusedSimpArgs false
set_option linter.unusedVariables false
namespace Go.Proofs.YtlfnapfnpkhggaaGreat
open Go.RowKit Dg

/-- What 'take' leaves: the digits of u, less q times v, where that fits. -/
def RetTake (w : World) (g n q : Nat) (A ol C : List Nat) (r : List Value) (V : Nat) (e : Ending) (w' : World) : Prop :=
  ∃ ol', ((val 18446744073709551616 ol < q * V ∧ e = .returned (.bool false) ∧ ol' = ol) ∨
      (q * V ≤ val 18446744073709551616 ol ∧ e = .returned (.bool true) ∧ ol'.length = n + 1 ∧ Digs 18446744073709551616 ol' ∧ val 18446744073709551616 ol' = val 18446744073709551616 ol - q * V)) ∧
    BlkC .u64 142 w' g (A ++ ol' ++ C) r ∧ Only g w w'

theorem take_step (lv pl : List Nat) (k carry q hi lo x : Nat) (hk : k < pl.length) (hx : lv[k]?.getD 0 = x) (hp : hi * 18446744073709551616 + lo = x * q)
    (h : val 18446744073709551616 (pl.take k) + carry * 18446744073709551616 ^ k = q * val 18446744073709551616 (lv.take k)) :
    val 18446744073709551616 ((pl.set k ((lo + carry) % 18446744073709551616)).take (k + 1)) + (hi + (lo + carry) / 18446744073709551616) * 18446744073709551616 ^ (k + 1) = q * val 18446744073709551616 (lv.take (k + 1)) := by
  rw [val_take_set_succ _ _ _ _ hk, val_take_succ', hx, Nat.pow_succ]
  have h1 := Nat.div_add_mod (lo + carry) 18446744073709551616
  generalize (lo + carry) / 18446744073709551616 = c at *
  generalize (lo + carry) % 18446744073709551616 = d at *
  generalize val 18446744073709551616 (pl.take k) = X at *
  generalize val 18446744073709551616 (lv.take k) = Y at *
  generalize (18446744073709551616 : Nat) ^ k = P at *
  have h2 : P * (hi * 18446744073709551616 + lo) = P * (x * q) := by rw [hp]
  have h3 : P * (18446744073709551616 * c + d) = P * (lo + carry) := by rw [h1]
  rw [Nat.mul_add] at h2 h3
  grind

set_option maxRecDepth 100000 in
set_option maxHeartbeats 4000000 in
theorem l_take_calls (g n cu cv q : Nat) (vo : Option Addr) (A ol C lv : List Nat) (r : List Value) (w : World) (hb : BlkC .u64 142 w g (A ++ ol ++ C) r) (hol : ol.length = n + 1) (hdo : Digs 18446744073709551616 ol)
    (hcu : n + 1 ≤ cu) (hcm : cu ≤ 9223372036854775807) (hv : Sl .u64 w vo n cv lv) (hdv : Digs 18446744073709551616 lv) (haw : Away g (.slice vo n cv)) (hq : q < 18446744073709551616) (hn : n ≤ 1099511627776) :
    Calls Tryz.prog 203 #[.slice (some ⟨g, A.length, none⟩) (n + 1) cu, .slice vo n cv, .int .u64 q] w (RetTake w g n q A ol C r (val 18446744073709551616 lv)) := by
  have hg := hb.lt
  have HB := Lib.hid hb; clear hb
  have HOL := Lib.hid hol; clear hol
  have HDO := Lib.hid hdo; clear hdo
  have HV := Lib.hid hv; clear hv
  have HDV := Lib.hid hdv; clear hdv
  have HAW := Lib.hid haw; clear haw
  generalize hjA : A.length = j at *
  have HJ := Lib.hid hjA; clear hjA
  obtain ⟨i0, hi, hz0, hz1, hz2⟩ := info_parts info_u64
  go_enter Tryz.func203, Tryz.ntmps203
  go_wp2_with (at_make; refine wpList_make_u _ rfl _ _ 38 rfl 142 i0 .u64 Tryz.underlying38 hi hz0 hz1 _ _ _ _ (n + 1) (n + 1) rfl rfl ?c1 ?c2 (Nat.le_refl _) ?c3 ?c4 ?_)
  case c1 => omega
  case c2 => omega
  case c3 => rw [hz2]; omega
  case c4 => omega
  go_loopw [8, 22] (fun cv iv wr => ∃ (k carry : Nat) (pl : List Nat), k ≤ n ∧ iv = .int .i64 k ∧ cv = .int .u64 carry ∧ carry < 18446744073709551616 ∧ Blk .u64 142 wr w.heap.size pl ∧ pl.length = n + 1 ∧ Digs 18446744073709551616 pl ∧
      val 18446744073709551616 (pl.take k) + carry * 18446744073709551616 ^ k = q * val 18446744073709551616 (lv.take k) ∧ Below w.heap.size w wr) (fun _ iv _ => n - (intOf iv).toNat)
  case atStart => exact ⟨0, 0, _, by omega, rfl, rfl, by omega, Blk.new .u64 _ w _, by simp, Digs.zeros (by omega) _, by simp [val], (Below.refl _ _).alloc (Nat.le_refl _) _⟩
  case round =>
    obtain ⟨k, carry, pl, hk, rfl, rfl, hca, hblk, hpl, hdp, hval, hbel⟩ := hrel
    have HBP := Lib.hid hblk
    have HPL := Lib.hid hpl
    have HDP := Lib.hid hdp
    have HVAL := Lib.hid hval
    have HBE := Lib.hid hbel
    have HE := Lib.hid (HV.out.mono hbel)
    have d1 := HDV.out.get (by omega) k
    clear hblk hpl hdp hval hbel
    by_cases hkn : k < n
    · obtain ⟨b1, o1, rfl, hc1⟩ := HE.out.at hkn
      have hc2 := HBP.out.cell (j := k) (by have := HPL.out; omega)
      have hf2 := HBP.out.free k
      go_wp2_with fail
      refine (mul64 (lv[k]?.getD 0) q d1 hq _).mono ?_
      rintro e w' ⟨hi, lo, rfl, rfl, hp, hlo, hhi⟩
      have hprod : lv[k]?.getD 0 * q ≤ 18446744073709551615 * 18446744073709551615 := Nat.mul_le_mul (by omega) (by omega)
      have hst := take_step lv pl k carry q hi lo _ (by rw [HPL.out]; omega) rfl hp HVAL.out
      have HST := Lib.hid hst
      rw [← hp] at hprod
      clear hp hst
      have A1 := add64_0 (lo : Int) (carry : Int) (by omega) (by omega)
      have hT : (hi : Int) + ((lo : Int) + (carry : Int)) / 18446744073709551616 < 18446744073709551616 := by omega
      go_wp2
      go_roundw
      case rel =>
        refine ⟨k + 1, hi + (lo + carry) / 18446744073709551616, pl.set k ((lo + carry) % 18446744073709551616), by omega, by go_num, by simp, by omega, ?_, by rw [List.length_set]; exact HPL.out, HDP.out.set _ _ (Nat.mod_lt _ (by omega)), HST.out, HBE.out.setCell (Nat.le_refl _) _⟩
        exact HBP.out.set _ _
      all_goals first | (simp [intOf]; done) | (simp [intOf]; omega)
    · obtain rfl : k = n := by omega
      have hc2 := HBP.out.cell (j := k) (by have := HPL.out; omega)
      have hf2 := HBP.out.free k
      have hblk2 := HBP.out.set k carry
      have hv2 : val 18446744073709551616 (pl.set k carry) = q * val 18446744073709551616 lv := by
        have h1 := val_take_set_succ 18446744073709551616 pl k carry (by rw [HPL.out]; omega)
        rw [val_take_all _ _ (k + 1) (by rw [List.length_set, HPL.out]; omega)] at h1
        rw [h1, Nat.mul_comm _ carry, HVAL.out, val_take_all _ lv k (by have := HV.out.len; omega)]
      have hd2 := HDP.out.set k carry hca
      have hl2 : (pl.set k carry).length = k + 1 := by rw [List.length_set]; exact HPL.out
      have hbe2 := HBE.out.setCell (p := ⟨w.heap.size, k, none⟩) (Nat.le_refl _) (.int .u64 (carry : Int))
      clear HBP HPL HDP HVAL HBE
      generalize pl.set k carry = pl2 at *
      have HBP := Lib.hid hblk2
      have HV2 := Lib.hid hv2
      have HD2 := Lib.hid hd2
      have HL2 := Lib.hid hl2
      have HBE := Lib.hid hbe2
      clear hblk2 hv2 hd2 hl2 hbe2
      go_wp2_with fail
      have hbb := HB.out.below HBE.out
      have hslu := hbb.sl cu (by rw [HOL.out]; omega) hcm
      rw [HOL.out, HJ.out] at hslu
      have hslp := HBP.out.sl (by have := HL2.out; omega)
      rw [HL2.out] at hslp
      refine (l_cut_calls _ _ _ ol _ hslu HDO.out).mono ?_
      rintro e w' ⟨m1, hm1, hcan1, hval1, rfl, rfl⟩
      have HS1 := Lib.hid (hslu.take m1 hm1)
      have HBB := Lib.hid hbb
      clear hslu hbb
      go_wp2_with fail
      refine (l_cut_calls _ _ _ pl2 _ hslp HD2.out).mono ?_
      rintro e w' ⟨m2, hm2, hcan2, hval2, rfl, rfl⟩
      have HS2 := Lib.hid (hslp.take m2 hm2)
      clear hslp
      go_wp2_with fail
      refine (l_cmp_calls _ _ _ _ _ _ _ _ _ HS1.out HS2.out hcan1 hcan2).mono ?_
      rintro e w' ⟨nq, rfl, rfl⟩
      rw [hval1, hval2, HV2.out]
      clear hval1 hval2 hcan1 hcan2 HS1 HS2
      generalize (wr.setCell ⟨w.heap.size, k, none⟩ (.int .u64 (carry : Int))) = w1 at *
      by_cases hlt : val 18446744073709551616 ol < q * val 18446744073709551616 lv
      · have hord := ordN_lt hlt
        have HLT := Lib.hid hlt
        clear hlt
        go_wp2
        go_ret
        exact ⟨ol, .inl ⟨HLT.out, rfl, rfl⟩, HBB.out.drewN nq, (Only.of_below HBE.out).drawN nq⟩
      · have hord := ordN_ge (show q * val 18446744073709551616 lv ≤ val 18446744073709551616 ol by omega)
        have HLE := Lib.hid (show q * val 18446744073709551616 lv ≤ val 18446744073709551616 ol by omega)
        have HNE := Lib.hid (show w.heap.size ≠ g by omega)
        clear hlt
        go_wp2
        go_loopw [14, 59] (fun cv iv wr => ∃ (i borrow : Nat) (o2 : List Nat), i ≤ k + 1 ∧ iv = .int .i64 i ∧ cv = .int .u64 borrow ∧ borrow ≤ 1 ∧ BlkC .u64 142 wr g (A ++ o2 ++ C) r ∧ o2.length = k + 1 ∧ Digs 18446744073709551616 o2 ∧ (∀ t, i ≤ t → o2[t]?.getD 0 = ol[t]?.getD 0) ∧
            val 18446744073709551616 (o2.take i) + val 18446744073709551616 (pl2.take i) = val 18446744073709551616 (ol.take i) + borrow * 18446744073709551616 ^ i ∧ Only g w wr ∧ Blk .u64 142 wr w.heap.size pl2) (fun _ iv _ => k + 1 - (intOf iv).toNat)
        case atStart => exact ⟨0, 0, ol, by omega, rfl, rfl, by omega, HBB.out.drewN nq, HOL.out, HDO.out, fun _ _ => rfl, by simp [val], (Only.of_below HBE.out).drawN nq, HBP.out.drewN nq⟩
        case round =>
          obtain ⟨i, borrow, o2, hi1, rfl, rfl, hbo, hbl, ho2, hd2, hsame, hval, honly, hbp⟩ := hrel
          by_cases hik : i < k + 1
          · have hcu' : (i : Int) < ((k + 1 : Nat) : Int) := by omega
            have hcell := hbl.cell (j := A.length + i) (by simp; omega)
            rw [get_mid _ _ _ _ (by omega), hsame i (Nat.le_refl _), HJ.out] at hcell
            have hfree := hbl.free (j + i)
            have hcp := hbp.cell (j := i) (by rw [HL2.out]; omega)
            have x1 := HDO.out.get (by omega) i
            have x2 := HD2.out.get (by omega) i
            have hset : ∀ y : Nat, BlkC .u64 142 (wr.setCell ⟨g, j + i, none⟩ (.int .u64 (y : Int))) g (A ++ o2.set i y ++ C) r := by
              intro y
              have := hbl.set (A.length + i) y (by simp; omega)
              rw [set_mid _ _ _ _ _ (by omega), HJ.out] at this
              exact this
            have fin : ∀ (wf : World) (x nb : Int), x = (((ol[i]?.getD 0 : Nat) : Int) - ((pl2[i]?.getD 0 : Nat) : Int) - borrow) % 18446744073709551616 → nb = bor ((ol[i]?.getD 0 : Nat) : Int) ((pl2[i]?.getD 0 : Nat) : Int) borrow → wf = (wr.drew).setCell ⟨g, j + i, none⟩ (.int .u64 x) →
                ∃ (i' borrow' : Nat) (o2 : List Nat), i' ≤ k + 1 ∧ Value.int .i64 ((i : Int) + 1) = .int .i64 i' ∧ Value.int .u64 nb = .int .u64 borrow' ∧ borrow' ≤ 1 ∧ BlkC .u64 142 wf g (A ++ o2 ++ C) r ∧ o2.length = k + 1 ∧ Digs 18446744073709551616 o2 ∧ (∀ t, i' ≤ t → o2[t]?.getD 0 = ol[t]?.getD 0) ∧
                val 18446744073709551616 (o2.take i') + val 18446744073709551616 (pl2.take i') = val 18446744073709551616 (ol.take i') + borrow' * 18446744073709551616 ^ i' ∧ Only g w wf ∧ Blk .u64 142 wf w.heap.size pl2 := by
              intro wf x nb hx hnb hwf
              obtain ⟨y, rfl⟩ := Int.eq_ofNat_of_zero_le (show 0 ≤ x by omega)
              have hnb' : nb = 0 ∨ nb = 1 := by rw [hnb]; unfold bor; split <;> simp
              obtain ⟨nb, rfl⟩ := Int.eq_ofNat_of_zero_le (show 0 ≤ nb by omega)
              have hx' : y + (borrow + pl2[i]?.getD 0) = ol[i]?.getD 0 + nb * 18446744073709551616 := by
                unfold bor at hnb
                split at hnb <;> omega
              refine ⟨i + 1, nb, o2.set i y, by omega, by go_num, rfl, by omega, ?_, by rw [List.length_set]; exact ho2, hd2.set _ _ (by omega), ?_, ?_, ?_, ?_⟩
              · rw [hwf]; exact hset y
              · intro t ht
                rw [get_set _ _ _ _ (by omega), if_neg (by omega)]
                exact hsame t (by omega)
              · exact dif_step _ _ _ _ _ borrow (by rw [ho2]; exact hik) hval y y nb hx' rfl
              · rw [hwf]; exact honly.drew.setCell _ _
              · rw [hwf]; exact (hbp.drewN 1).only ((Only.refl g _).setCell (j + i) (.int .u64 (y : Int))) HNE.out
            have FIN := Lib.hid fin
            clear fin hbl ho2 hd2 hsame hval honly hbp hset
            have A1 := sub64 ((ol[i]?.getD 0 : Nat) : Int) ((pl2[i]?.getD 0 : Nat) : Int) (borrow : Int) (by omega) (by omega) (by omega) (by omega) (by omega)
            go_wp2
            go_region
            go_wp2
            go_roundw
            case rel => exact FIN.out _ _ _ rfl rfl rfl
            all_goals first | (simp [intOf]; done) | (simp [intOf]; omega)
          · obtain rfl : i = k + 1 := by omega
            have hfin : val 18446744073709551616 o2 = val 18446744073709551616 ol - q * val 18446744073709551616 lv := by
              have := dif_end (by omega) hd2 (l := ol) (l' := pl2) (by rw [ho2, HOL.out]) (by rw [HL2.out, HOL.out]; omega) (by rw [HV2.out]; exact HLE.out) (by rw [ho2]; exact hval)
              rw [HV2.out] at this
              exact this
            have FIN := Lib.hid (show RetTake w g k q A ol C r (val 18446744073709551616 lv) (.returned (.bool true)) wr from ⟨o2, .inr ⟨HLE.out, rfl, ho2, hd2, hfin⟩, hbl, honly⟩)
            clear hbl ho2 hd2 hsame hval honly hbp hfin
            go_wp2
            go_ret
            exact FIN.out
end Go.Proofs.YtlfnapfnpkhggaaGreat
