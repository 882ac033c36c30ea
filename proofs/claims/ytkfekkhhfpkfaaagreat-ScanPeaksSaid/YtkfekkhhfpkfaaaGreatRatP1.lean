/-
  The contracts of the program's fractions, first part: the naturals' contracts said of values; under, reduced, size, Int, New.
-/
import Derived.Test.YtkfekkhhfpkfaaaGreatLimb13
import Derived.Test.YtkfekkhhfpkfaaaGreatPkMem
import Derived.Test.YtkfekkhhfpkfaaaGreatRefRat4
set_option linter.unusedSimpArgs false
set_option linter.unusedVariables false
namespace Go.Proofs.YtkfekkhhfpkfaaaGreat
open Go.RowKit Dg
attribute [local go_sem ↓] Go.wp_at_zero Go.wp_at_succ

theorem NatV.szP {w : World} {v : Value} {x K : Nat} (h : NatV .u64 18446744073709551616 w v x) (hx : x < 18446744073709551616 ^ K) : NatS .u64 18446744073709551616 K w v x := by
  obtain ⟨ao, n, c, l, e, hs, hc, hv⟩ := h
  refine ⟨ao, n, c, l, e, hs, hc, hv, ?_⟩
  have := hc.length_le (by omega) (by rw [hv]; exact hx)
  rwa [hs.len] at this

theorem ln_word (x : Nat) (w : World) (h : x < 18446744073709551616) : Calls Tryz.prog 77 #[.int .u64 (x : Int)] w (RetN .u64 18446744073709551616 w x) := l_word_calls x w h
theorem ln_plus {v1 v2 : Value} {x y K : Nat} {w : World} (h1 : NatV .u64 18446744073709551616 w v1 x) (h2 : NatV .u64 18446744073709551616 w v2 y) (hx : x < 18446744073709551616 ^ K) (hy : y < 18446744073709551616 ^ K) (hK : K ≤ 1099511627776) :
    Calls Tryz.prog 109 #[v1, v2] w (RetN .u64 18446744073709551616 w (x + y)) := by
  obtain ⟨a1, n1, c1, l1, rfl, hs1, hc1, rfl, hn1⟩ := h1.szP hx
  obtain ⟨a2, n2, c2, l2, rfl, hs2, hc2, rfl, hn2⟩ := h2.szP hy
  exact l_plus_calls _ _ _ _ _ _ _ _ _ hs1 hs2 hc1 hc2 (by omega) (by omega)
theorem ln_minus {v1 v2 : Value} {x y K : Nat} {w : World} (h1 : NatV .u64 18446744073709551616 w v1 x) (h2 : NatV .u64 18446744073709551616 w v2 y) (hx : x < 18446744073709551616 ^ K) (hy : y ≤ x) (hK : K ≤ 1099511627776) :
    Calls Tryz.prog 110 #[v1, v2] w (RetN .u64 18446744073709551616 w (x - y)) := by
  obtain ⟨a1, n1, c1, l1, rfl, hs1, hc1, rfl, hn1⟩ := h1.szP hx
  obtain ⟨a2, n2, c2, l2, rfl, hs2, hc2, rfl⟩ := h2
  exact l_minus_calls _ _ _ _ _ _ _ _ _ hs1 hs2 hc1 hc2 (by omega) hy
theorem ln_times {v1 v2 : Value} {x y K L : Nat} {w : World} (h1 : NatV .u64 18446744073709551616 w v1 x) (h2 : NatV .u64 18446744073709551616 w v2 y) (hx : x < 18446744073709551616 ^ K) (hy : y < 18446744073709551616 ^ L) (hK : K ≤ 1099511627776) (hL : L ≤ 1099511627776) :
    Calls Tryz.prog 80 #[v1, v2] w (RetN .u64 18446744073709551616 w (x * y)) := by
  obtain ⟨a1, n1, c1, l1, rfl, hs1, hc1, rfl, hn1⟩ := h1.szP hx
  obtain ⟨a2, n2, c2, l2, rfl, hs2, hc2, rfl, hn2⟩ := h2.szP hy
  exact l_times_calls _ _ _ _ _ _ _ _ _ hs1 hs2 hc1 hc2 (by omega) (by omega)
theorem ln_cmp {v1 v2 : Value} {x y : Nat} {w : World} (h1 : NatV .u64 18446744073709551616 w v1 x) (h2 : NatV .u64 18446744073709551616 w v2 y) :
    Calls Tryz.prog 82 #[v1, v2] w (RetV w (.int .i64 (ordN x y))) := by
  obtain ⟨a1, n1, c1, l1, rfl, hs1, hc1, rfl⟩ := h1
  obtain ⟨a2, n2, c2, l2, rfl, hs2, hc2, rfl⟩ := h2
  exact (l_cmp_calls _ _ _ _ _ _ _ _ _ hs1 hs2 hc1 hc2).mono fun e w' ⟨q, he, hw⟩ => ⟨he, by rw [hw]; exact below_drewN w q⟩
theorem ln_isOne {v : Value} {x : Nat} {w : World} (h : NatV .u64 18446744073709551616 w v x) : Calls Tryz.prog 128 #[v] w (RetV w (.bool (decide (x = 1)))) :=
  (l_isOne_calls v x w h).mono fun e w' ⟨he, hw⟩ => ⟨he, by rw [← hw]; exact Below.refl _ _⟩
theorem ln_gcd {v1 v2 : Value} {x y K : Nat} {w : World} (h1 : NatV .u64 18446744073709551616 w v1 x) (h2 : NatV .u64 18446744073709551616 w v2 y) (hx : x < 18446744073709551616 ^ K) (hy : y < 18446744073709551616 ^ K) (hK : K ≤ 1099511627774) :
    Calls Tryz.prog 127 #[v1, v2] w (RetN .u64 18446744073709551616 w (Nat.gcd x y)) := by
  obtain ⟨a1, n1, c1, l1, rfl, hs1, hc1, rfl, hn1⟩ := h1.szP hx
  obtain ⟨a2, n2, c2, l2, rfl, hs2, hc2, rfl, hn2⟩ := h2.szP hy
  exact l_gcd_calls _ _ _ _ _ _ _ _ _ hs1 hs2 hc1 hc2 (by omega) (by omega)
theorem ln_divide {v1 v2 : Value} {x y K : Nat} {w : World} (h1 : NatV .u64 18446744073709551616 w v1 x) (h2 : NatV .u64 18446744073709551616 w v2 y) (hx : x < 18446744073709551616 ^ K) (hy : 0 < y) (hK : K ≤ 1099511627774) :
    Calls Tryz.prog 129 #[v1, v2] w (RetNat2 .u64 18446744073709551616 w (x / y) (x % y)) := by
  obtain ⟨a1, n1, c1, l1, rfl, hs1, hc1, rfl, hn1⟩ := h1.szP hx
  obtain ⟨a2, n2, c2, l2, rfl, hs2, hc2, rfl⟩ := h2
  exact l_divide_calls _ _ _ _ _ _ _ _ _ hs1 hs2 hc1 hc2 (by omega) hy
theorem ln_text {v1 : Value} {x K : Nat} {w : World} (h1 : NatV .u64 18446744073709551616 w v1 x) (hx : x < 18446744073709551616 ^ K) (hK : K ≤ 536870912) :
    Calls Tryz.prog 108 #[v1] w (RetV w (strV (decS x))) := by
  obtain ⟨a1, n1, c1, l1, rfl, hs1, hc1, rfl, hn1⟩ := h1.szP hx
  exact l_text_calls _ _ _ _ _ hs1 hc1 (by omega)

set_option maxRecDepth 100000 in
theorem load_P {w : World} {g : Nat} {u0 u1 u2 : Value} {t : TypeId} (h : Bx w g t #[u0, u1, u2]) : (loadVar 32 ⟨g, 0, none⟩).run Tryz.prog w = .ok (.agg #[u0, u1, u2]) w := by
  have h0 := h.at 0 rfl
  have h1 := h.at 1 rfl
  have h2 := h.at 2 rfl
  simp [go_sem, h0, h1, h2]
set_option maxRecDepth 100000 in
/-- The end of a function that hands back a fraction out of a cell of its own. -/
theorem ret_P {fn : Func} {p : Tmp} {w0 w : World} {g : Nat} {q : Rat} {v1 v2 v3 : Value} {t : TypeId} {a : Act} (hr : fn.results = #[.cell p 32]) (ha : a.tmps.getD p undef = .pointer (some ⟨g, 0, none⟩)) (hdef : a.defers = [])
    (hbox : Bx w g t #[v1, v2, v3]) (h : PV w (.agg #[v1, v2, v3]) q) (hb : Below w0.heap.size w0 w) : bodyPost Tryz.prog fn (RetP w0 q) .ret a w :=
  bodyPost_ret (v := .agg #[v1, v2, v3]) (by rw [results_cell1 hr, ha]; exact load_P hbox) hdef ⟨_, rfl, h, hb⟩
set_option maxRecDepth 100000 in
theorem ret_PE {fn : Func} {p u : Tmp} {w0 w : World} {g : Nat} {q : Rat} {v1 v2 v3 : Value} {t : TypeId} {a : Act} {err : Int} (hr : fn.results = #[.cell p 32, .tmp u]) (ha : a.tmps.getD p undef = .pointer (some ⟨g, 0, none⟩)) (hu : a.tmps.getD u undef = .int .i64 err) (hdef : a.defers = [])
    (hbox : Bx w g t #[v1, v2, v3]) (h : PV w (.agg #[v1, v2, v3]) q) (hb : Below w0.heap.size w0 w) : bodyPost Tryz.prog fn (RetPE w0 q err) .ret a w := by
  refine bodyPost_ret (v := .tuple #[.agg #[v1, v2, v3], .int .i64 err]) ?_ hdef ⟨_, rfl, h, hb⟩
  rw [results_cell_tmp hr, ha, hu]
  simp only [asAddr, Sem.run_pure, Result.andThen_ok]
  rw [load_P hbox]
  rfl
theorem PV.of_eq {w : World} {v : Value} {q q' : Rat} (h : PV w v q) (e : q = q') : PV w v q' := e ▸ h
theorem PV.zero (w : World) : PV w (.agg #[.bool false, .slice none 0 0, .slice none 0 0]) 0 :=
  PV.mk' ⟨_, _, _, [], rfl, Sl.empty _ _ _ _ (by omega) (fun _ => rfl), Canon.nil _, rfl⟩ ⟨_, _, _, [], rfl, Sl.empty _ _ _ _ (by omega) (fun _ => rfl), Canon.nil _, rfl⟩ (n := 0) (d := 0) rfl rfl rfl

set_option maxRecDepth 100000 in
set_option maxHeartbeats 2000000 in
theorem p_under_calls (v : Value) (q : Nat) (w : World) (h0 : 0 < q) (h : NatV .u64 18446744073709551616 w v (if q = 1 then 0 else q)) : Calls Tryz.prog 81 #[v] w (RetN .u64 18446744073709551616 w q) := by
  by_cases h1 : q = 1
  · subst h1
    rw [if_pos rfl] at h
    obtain ⟨ao, n, c, l, rfl, hs, hc, hv⟩ := h
    obtain rfl := hc.nil_of (by omega) hv
    have := hs.len
    simp at this
    subst this
    clear hs hc hv
    go_enter Tryz.func81, Tryz.ntmps81
    go_wp2_with fail
    refine (ln_word 1 _ (by omega)).mono ?_
    rintro e w1 ⟨_, rfl, hq, hb⟩
    go_wp2
    go_ret
    exact ⟨_, rfl, hq, hb⟩
  · rw [if_neg h1] at h
    obtain ⟨ao, n, c, l, rfl, hs, hc, hv⟩ := h
    have hn : n ≤ 9223372036854775807 := by have := hs.cap; have := hs.max; omega
    have hn0 : 0 < n := by
      have := hc.length_pos_iff (by omega)
      rw [hs.len, hv] at this
      exact this.2 h0
    have hn1 : ((n : Int) == 0) = false := by rw [beq_eq_false_iff_ne]; omega
    have HS := Lib.hid hs
    have HC := Lib.hid hc
    have HV := Lib.hid hv
    clear hs hc hv h1
    go_enter Tryz.func81, Tryz.ntmps81
    go_wp2
    go_ret
    exact ⟨_, rfl, ⟨_, _, _, _, rfl, HS.out, HC.out, HV.out⟩, Below.refl _ _⟩

set_option maxRecDepth 100000 in
set_option maxHeartbeats 2000000 in
theorem p_reduced_zero (neg : Bool) (a1 : Option Addr) (c1 : Nat) (vd : Value) (w : World) : Calls Tryz.prog 76 #[.bool neg, .slice a1 0 c1, vd] w (RetP w 0) := by
  go_enter Tryz.func76, Tryz.ntmps76
  go_wp2
  have hs := Below.refl w.heap.size w
  refine bodyPost.abs ?_
  intro w1 hW
  have hsz := hs.size
  have hs1 : Below w.heap.size w w1 := by rw [hW]; exact (Below.alloc hs (by first | exact hs.size | (have := hs.size; simp; done) | (have := hs.size; simp; omega)) _)
  have hk : KeepD w w1 := by rw [hW]; exact ((KeepD.refl _).alloc _)
  have Bl1z : Bx w1 (w.heap.size) 32 #[.bool false, .slice none 0 0, .slice none 0 0] := by rw [hW]; exact (Bx.new' _ _ _ _ (by first | rfl | (simp; done)))
  replace hs := hs1
  clear hs1
  have Blz := Bl1z
  clear Bl1z
  clear hW hk hsz
  have hz_w1 : w.heap.size < w1.heap.size := Blz.lt
  exact ret_P rfl rfl rfl Blz (PV.zero _) hs

set_option maxRecDepth 100000 in
set_option maxHeartbeats 2000000 in
theorem p_reduced_pos (neg : Bool) (a1 a2 : Option Addr) (n1 c1 n2 c2 n d K : Nat) (w : World) (hn : NatV .u64 18446744073709551616 w (.slice a1 n1 c1) n) (hd : NatV .u64 18446744073709551616 w (.slice a2 n2 c2) d)
    (hn0 : 0 < n) (hd0 : 0 < d) (hK : K ≤ 1099511627774) (zn : n < 18446744073709551616 ^ K) (zd : d < 18446744073709551616 ^ K) :
    Calls Tryz.prog 76 #[.bool neg, .slice a1 n1 c1, .slice a2 n2 c2] w (RetP w (mkQ neg n d)) := by
  have hn1 : ((n1 : Int) == 0) = false := by
    obtain ⟨ao, n', c, l, e, hs, hc, hv⟩ := hn
    injection e with e1 e2 e3
    subst e2
    have := hc.length_pos_iff (by omega)
    rw [hs.len, hv] at this
    rw [beq_eq_false_iff_ne]; have := this.2 hn0; omega
  have hn1' : n1 ≤ 9223372036854775807 := by
    obtain ⟨ao, n', c, l, e, hs, hc, hv⟩ := hn
    injection e with e1 e2 e3
    subst e2
    have := hs.cap; have := hs.max; omega
  have hq1 := mkQ_natAbs neg n d (by omega)
  have hq2 := mkQ_den neg n d (by omega)
  have hq3 := mkQ_ng neg n d (by omega) (by omega)
  generalize mkQ neg n d = q at *
  have hG0 := Nat.gcd_pos_of_pos_left d hn0
  have hdn := Nat.div_pos (Nat.le_of_dvd hd0 (Nat.gcd_dvd_right n d)) hG0
  generalize hG : Nat.gcd n d = G at *
  have HG := Lib.hid hG
  have HQ1 := Lib.hid hq1
  have HQ2 := Lib.hid hq2
  have HQ3 := Lib.hid hq3
  have HDN := Lib.hid hdn
  clear hG hq1 hq2 hq3 hdn
  go_enter Tryz.func76, Tryz.ntmps76
  have hs := Below.refl w.heap.size w
  go_wp2_with fail
  refine Calls.abs ?_
  intro w1 hW
  have hsz := hs.size
  have hs1 : Below w.heap.size w w1 := by rw [hW]; exact (Below.alloc hs (by first | exact hs.size | (have := hs.size; simp; done) | (have := hs.size; simp; omega)) _)
  have hk : KeepD w w1 := by rw [hW]; exact ((KeepD.refl _).alloc _)
  have Bl1z : Bx w1 (w.heap.size) 32 #[.bool false, .slice none 0 0, .slice none 0 0] := by rw [hW]; exact (Bx.new' _ _ _ _ (by first | rfl | (simp; done)))
  replace hs := hs1
  clear hs1
  have Blz := Bl1z
  clear Bl1z
  replace hn := hn.keep hk
  replace hd := hd.keep hk
  clear hW hk hsz
  have hz_w1 : w.heap.size < w1.heap.size := Blz.lt
  refine (ln_gcd hn hd zn zd hK).mono ?_
  rintro e w2 ⟨_, rfl, hg, hb⟩
  obtain ⟨ahg, nhg, chg, rfl⟩ := hg.shape
  replace hs := bStep hs hb
  replace Blz := Blz.mono hb
  replace hn := hn.mono hb
  replace hd := hd.mono hb
  clear hb
  rw [HG.out] at hg
  by_cases hG1 : G = 1
  · have hdec : decide (G = 1) = true := by simp [hG1]
    have HG1 := Lib.hid hG1
    clear hG1
    go_wp2_with fail
    refine (ln_isOne hg).mono ?_
    rintro e w3 ⟨rfl, hb⟩
    replace hs := bStep hs hb
    replace Blz := Blz.mono hb
    replace hn := hn.mono hb
    replace hd := hd.mono hb
    replace hg := hg.mono hb
    clear hb
    rw [hdec]
    clear hdec
    have hG1 := HG1.out
    by_cases hD1 : d = 1
    · have hdec : decide (d = 1) = true := by simp [hD1]
      have HD1 := Lib.hid hD1
      clear hD1
      go_wp2_with fail
      refine (ln_isOne hd).mono ?_
      rintro e w4 ⟨rfl, hb⟩
      replace hs := bStep hs hb
      replace Blz := Blz.mono hb
      replace hn := hn.mono hb
      replace hd := hd.mono hb
      replace hg := hg.mono hb
      clear hb
      rw [hdec]
      clear hdec
      have cz_0 : w4.cell? ⟨w.heap.size, 0, none⟩ = some (.bool false) := Blz.at 0 rfl
      have cz_1 : w4.cell? ⟨w.heap.size, 1, none⟩ = some (.slice none 0 0) := Blz.at 1 rfl
      have cz_2 : w4.cell? ⟨w.heap.size, 2, none⟩ = some (.slice none 0 0) := Blz.at 2 rfl
      have fz := Blz.free
      go_wp2
      refine bodyPost.abs ?_
      intro w5 hW
      have hsz := hs.size
      have lz := Blz.lt
      have hs1 : Below w.heap.size w w5 := by rw [hW]; exact (Below.setCell (Below.setCell (Below.setCell hs (by first | exact Nat.le_refl _ | omega | (have := hs.size; simp; done) | (have := hs.size; simp; omega)) _) (by first | exact Nat.le_refl _ | omega | (have := hs.size; simp; done) | (have := hs.size; simp; omega)) _) (by first | exact Nat.le_refl _ | omega | (have := hs.size; simp; done) | (have := hs.size; simp; omega)) _)
      have hk : KeepD w4 w5 := by rw [hW]; exact (KeepD.set (KeepD.set (KeepD.set (KeepD.refl _) Blz.ty (by decide) _ _) (TyB.store Blz.ty _ _) (by decide) _ _) (TyB.store (TyB.store Blz.ty _ _) _ _) (by decide) _ _)
      have Bl1z : Bx w5 (w.heap.size) 32 #[.bool neg, .slice a1 n1 c1, .slice none 0 0] := by rw [hW]; exact (Bx.set (Bx.set (Bx.set Blz 0 _ rfl) 1 _ rfl) 2 _ rfl)
      replace hs := hs1
      clear hs1
      replace Blz := Bl1z
      clear Bl1z
      replace hn := hn.keep hk
      replace hd := hd.keep hk
      replace hg := hg.keep hk
      clear hW hk hsz lz
      refine ret_P rfl rfl rfl Blz (PV.mk' hn (d := 0) ⟨_, _, _, [], rfl, Sl.empty _ _ _ _ (by omega) (fun _ => rfl), Canon.nil _, rfl⟩ HQ3.out.symm ?_ ?_) hs
      · rw [HQ1.out, hG1, Nat.div_one]
      · rw [HQ2.out, hG1, Nat.div_one, if_pos]
        exact HD1.out
    · have hdec : decide (d = 1) = false := by simp [hD1]
      have HD1 := Lib.hid hD1
      clear hD1
      go_wp2_with fail
      refine (ln_isOne hd).mono ?_
      rintro e w4 ⟨rfl, hb⟩
      replace hs := bStep hs hb
      replace Blz := Blz.mono hb
      replace hn := hn.mono hb
      replace hd := hd.mono hb
      replace hg := hg.mono hb
      clear hb
      rw [hdec]
      clear hdec
      have cz_0 : w4.cell? ⟨w.heap.size, 0, none⟩ = some (.bool false) := Blz.at 0 rfl
      have cz_1 : w4.cell? ⟨w.heap.size, 1, none⟩ = some (.slice none 0 0) := Blz.at 1 rfl
      have cz_2 : w4.cell? ⟨w.heap.size, 2, none⟩ = some (.slice none 0 0) := Blz.at 2 rfl
      have fz := Blz.free
      go_wp2
      refine bodyPost.abs ?_
      intro w5 hW
      have hsz := hs.size
      have lz := Blz.lt
      have hs1 : Below w.heap.size w w5 := by rw [hW]; exact (Below.setCell (Below.setCell (Below.setCell hs (by first | exact Nat.le_refl _ | omega | (have := hs.size; simp; done) | (have := hs.size; simp; omega)) _) (by first | exact Nat.le_refl _ | omega | (have := hs.size; simp; done) | (have := hs.size; simp; omega)) _) (by first | exact Nat.le_refl _ | omega | (have := hs.size; simp; done) | (have := hs.size; simp; omega)) _)
      have hk : KeepD w4 w5 := by rw [hW]; exact (KeepD.set (KeepD.set (KeepD.set (KeepD.refl _) Blz.ty (by decide) _ _) (TyB.store Blz.ty _ _) (by decide) _ _) (TyB.store (TyB.store Blz.ty _ _) _ _) (by decide) _ _)
      have Bl1z : Bx w5 (w.heap.size) 32 #[.bool neg, .slice a1 n1 c1, .slice a2 n2 c2] := by rw [hW]; exact (Bx.set (Bx.set (Bx.set Blz 0 _ rfl) 1 _ rfl) 2 _ rfl)
      replace hs := hs1
      clear hs1
      replace Blz := Bl1z
      clear Bl1z
      replace hn := hn.keep hk
      replace hd := hd.keep hk
      replace hg := hg.keep hk
      clear hW hk hsz lz
      refine ret_P rfl rfl rfl Blz (PV.mk' hn (d := d) hd HQ3.out.symm ?_ ?_) hs
      · rw [HQ1.out, hG1, Nat.div_one]
      · rw [HQ2.out, hG1, Nat.div_one, if_neg]
        exact HD1.out
  · have hdec : decide (G = 1) = false := by simp [hG1]
    clear hG1
    go_wp2_with fail
    refine (ln_isOne hg).mono ?_
    rintro e w3 ⟨rfl, hb⟩
    replace hs := bStep hs hb
    replace Blz := Blz.mono hb
    replace hn := hn.mono hb
    replace hd := hd.mono hb
    replace hg := hg.mono hb
    clear hb
    rw [hdec]
    clear hdec
    go_wp2_with fail
    refine (ln_divide hn hg zn hG0 hK).mono ?_
    rintro e w4 ⟨_, _, rfl, hN, hN', hb⟩
    obtain ⟨ahN, nhN, chN, rfl⟩ := hN.shape
    obtain ⟨_, _, _, rfl⟩ := hN'.shape
    clear hN'
    replace hs := bStep hs hb
    replace Blz := Blz.mono hb
    replace hn := hn.mono hb
    replace hd := hd.mono hb
    replace hg := hg.mono hb
    clear hb
    go_wp2_with fail
    refine (ln_divide hd hg zd hG0 hK).mono ?_
    rintro e w5 ⟨_, _, rfl, hD, hD', hb⟩
    obtain ⟨ahD, nhD, chD, rfl⟩ := hD.shape
    obtain ⟨_, _, _, rfl⟩ := hD'.shape
    clear hD'
    replace hs := bStep hs hb
    replace Blz := Blz.mono hb
    replace hn := hn.mono hb
    replace hd := hd.mono hb
    replace hg := hg.mono hb
    replace hN := hN.mono hb
    clear hb
    by_cases hD1 : (d / G) = 1
    · have hdec : decide ((d / G) = 1) = true := by simp [hD1]
      have HD1 := Lib.hid hD1
      clear hD1
      go_wp2_with fail
      refine (ln_isOne hD).mono ?_
      rintro e w6 ⟨rfl, hb⟩
      replace hs := bStep hs hb
      replace Blz := Blz.mono hb
      replace hn := hn.mono hb
      replace hd := hd.mono hb
      replace hg := hg.mono hb
      replace hN := hN.mono hb
      replace hD := hD.mono hb
      clear hb
      rw [hdec]
      clear hdec
      have cz_0 : w6.cell? ⟨w.heap.size, 0, none⟩ = some (.bool false) := Blz.at 0 rfl
      have cz_1 : w6.cell? ⟨w.heap.size, 1, none⟩ = some (.slice none 0 0) := Blz.at 1 rfl
      have cz_2 : w6.cell? ⟨w.heap.size, 2, none⟩ = some (.slice none 0 0) := Blz.at 2 rfl
      have fz := Blz.free
      go_wp2
      refine bodyPost.abs ?_
      intro w7 hW
      have hsz := hs.size
      have lz := Blz.lt
      have hs1 : Below w.heap.size w w7 := by rw [hW]; exact (Below.setCell (Below.setCell (Below.setCell hs (by first | exact Nat.le_refl _ | omega | (have := hs.size; simp; done) | (have := hs.size; simp; omega)) _) (by first | exact Nat.le_refl _ | omega | (have := hs.size; simp; done) | (have := hs.size; simp; omega)) _) (by first | exact Nat.le_refl _ | omega | (have := hs.size; simp; done) | (have := hs.size; simp; omega)) _)
      have hk : KeepD w6 w7 := by rw [hW]; exact (KeepD.set (KeepD.set (KeepD.set (KeepD.refl _) Blz.ty (by decide) _ _) (TyB.store Blz.ty _ _) (by decide) _ _) (TyB.store (TyB.store Blz.ty _ _) _ _) (by decide) _ _)
      have Bl1z : Bx w7 (w.heap.size) 32 #[.bool neg, .slice ahN nhN chN, .slice none 0 0] := by rw [hW]; exact (Bx.set (Bx.set (Bx.set Blz 0 _ rfl) 1 _ rfl) 2 _ rfl)
      replace hs := hs1
      clear hs1
      replace Blz := Bl1z
      clear Bl1z
      replace hn := hn.keep hk
      replace hd := hd.keep hk
      replace hg := hg.keep hk
      replace hN := hN.keep hk
      replace hD := hD.keep hk
      clear hW hk hsz lz
      refine ret_P rfl rfl rfl Blz (PV.mk' hN (d := 0) ⟨_, _, _, [], rfl, Sl.empty _ _ _ _ (by omega) (fun _ => rfl), Canon.nil _, rfl⟩ HQ3.out.symm ?_ ?_) hs
      · rw [HQ1.out]
      · rw [HQ2.out, if_pos]
        exact HD1.out
    · have hdec : decide ((d / G) = 1) = false := by simp [hD1]
      have HD1 := Lib.hid hD1
      clear hD1
      go_wp2_with fail
      refine (ln_isOne hD).mono ?_
      rintro e w6 ⟨rfl, hb⟩
      replace hs := bStep hs hb
      replace Blz := Blz.mono hb
      replace hn := hn.mono hb
      replace hd := hd.mono hb
      replace hg := hg.mono hb
      replace hN := hN.mono hb
      replace hD := hD.mono hb
      clear hb
      rw [hdec]
      clear hdec
      have cz_0 : w6.cell? ⟨w.heap.size, 0, none⟩ = some (.bool false) := Blz.at 0 rfl
      have cz_1 : w6.cell? ⟨w.heap.size, 1, none⟩ = some (.slice none 0 0) := Blz.at 1 rfl
      have cz_2 : w6.cell? ⟨w.heap.size, 2, none⟩ = some (.slice none 0 0) := Blz.at 2 rfl
      have fz := Blz.free
      go_wp2
      refine bodyPost.abs ?_
      intro w7 hW
      have hsz := hs.size
      have lz := Blz.lt
      have hs1 : Below w.heap.size w w7 := by rw [hW]; exact (Below.setCell (Below.setCell (Below.setCell hs (by first | exact Nat.le_refl _ | omega | (have := hs.size; simp; done) | (have := hs.size; simp; omega)) _) (by first | exact Nat.le_refl _ | omega | (have := hs.size; simp; done) | (have := hs.size; simp; omega)) _) (by first | exact Nat.le_refl _ | omega | (have := hs.size; simp; done) | (have := hs.size; simp; omega)) _)
      have hk : KeepD w6 w7 := by rw [hW]; exact (KeepD.set (KeepD.set (KeepD.set (KeepD.refl _) Blz.ty (by decide) _ _) (TyB.store Blz.ty _ _) (by decide) _ _) (TyB.store (TyB.store Blz.ty _ _) _ _) (by decide) _ _)
      have Bl1z : Bx w7 (w.heap.size) 32 #[.bool neg, .slice ahN nhN chN, .slice ahD nhD chD] := by rw [hW]; exact (Bx.set (Bx.set (Bx.set Blz 0 _ rfl) 1 _ rfl) 2 _ rfl)
      replace hs := hs1
      clear hs1
      replace Blz := Bl1z
      clear Bl1z
      replace hn := hn.keep hk
      replace hd := hd.keep hk
      replace hg := hg.keep hk
      replace hN := hN.keep hk
      replace hD := hD.keep hk
      clear hW hk hsz lz
      refine ret_P rfl rfl rfl Blz (PV.mk' hN (d := (d / G)) hD HQ3.out.symm ?_ ?_) hs
      · rw [HQ1.out]
      · rw [HQ2.out, if_neg]
        exact HD1.out

/-- 'reduced': the fraction with a sign and numbers above and below. -/
theorem p_reduced_calls (neg : Bool) (vn vd : Value) (n d K : Nat) (w : World) (hn : NatV .u64 18446744073709551616 w vn n) (hd : NatV .u64 18446744073709551616 w vd d) (hd0 : 0 < d) (hK : K ≤ 1099511627774)
    (zn : n < 18446744073709551616 ^ K) (zd : d < 18446744073709551616 ^ K) : Calls Tryz.prog 76 #[.bool neg, vn, vd] w (RetP w (mkQ neg n d)) := by
  obtain ⟨a2, n2, c2, rfl⟩ := hd.shape
  rcases Nat.eq_zero_or_pos n with h | h
  · subst h
    obtain ⟨ao, n', c, l, rfl, hs, hc, hv⟩ := hn
    obtain rfl := hc.nil_of (by omega) hv
    have := hs.len
    simp at this
    subst this
    rw [mkQ_zero]
    exact p_reduced_zero _ _ _ _ _
  · obtain ⟨a1, n1, c1, rfl⟩ := hn.shape
    exact p_reduced_pos neg _ _ _ _ _ _ n d K w hn hd h hd0 hK zn zd

end Go.Proofs.YtkfekkhhfpkfaaaGreat
