/-
  The contracts of the program's fractions, first part: the naturals' contracts said of values; under, reduced, size, Int, New.
-/
import Derived.Test.YtkfekkhhfpkfaaaGreatLimb13G
import Derived.Test.YtkfekkhhfpkfaaaGreatPkMemG
import Derived.Test.YtkfekkhhfpkfaaaGreatPkRefBG
import Derived.StillTailTactics
set_option linter.unusedSimpArgs false
set_option linter.unusedVariables false
set_option maxRecDepth 100000
set_option maxHeartbeats 4000000
namespace Go.Proofs.YtkfekkhhfpkfaaaGreat
open Go.RowKit Dg
attribute [local go_sem ↓] Go.wp_at_zero Go.wp_at_succ
theorem NatV.szP {w : World} {v : Value} {x K : Nat} (h : NatV .u64 18446744073709551616 w v x) (hx : x < 18446744073709551616 ^ K) : NatS .u64 18446744073709551616 K w v x := by
 obtain ⟨ao, n, c, l, e, hs, hc, hv⟩ := h
 refine ⟨ao, n, c, l, e, hs, hc, hv, ?_⟩
 have := hc.length_le (by omega) (by rw [hv]; exact hx)
 rwa [hs.len] at this
theorem ln_word (x : Nat) (w : World) (h : x < 18446744073709551616) : Calls Tryz.prog 77 #[.int .u64 (x : Int)] w (RetN .u64 18446744073709551616 w x) := l_word_calls x w h
theorem ln_plus {v1 v2 : Value} {x y K : Nat} {w : World} (h1 : NatV .u64 18446744073709551616 w v1 x) (h2 : NatV .u64 18446744073709551616 w v2 y) (hx : x < 18446744073709551616 ^ K) (hy : y < 18446744073709551616 ^ K) (hK : K ≤ 1099511627776) :
  Calls Tryz.prog 109 #[v1, v2] w (RetN .u64 18446744073709551616 w (x + y)) := by
 obtain ⟨a1, n1, c1, l1, rfl, B1, B4, rfl, Ba⟩ := h1.szP hx
 obtain ⟨a2, n2, c2, l2, rfl, B6, B5, rfl, hn2⟩ := h2.szP hy
 exact l_plus_calls _ _ _ _ _ _ _ _ _ B1 B6 B4 B5 (by omega) (by omega)
theorem ln_minus {v1 v2 : Value} {x y K : Nat} {w : World} (h1 : NatV .u64 18446744073709551616 w v1 x) (h2 : NatV .u64 18446744073709551616 w v2 y) (hx : x < 18446744073709551616 ^ K) (hy : y ≤ x) (hK : K ≤ 1099511627776) :
  Calls Tryz.prog 110 #[v1, v2] w (RetN .u64 18446744073709551616 w (x - y)) := by
 obtain ⟨a1, n1, c1, l1, rfl, B1, B4, rfl, Ba⟩ := h1.szP hx
 obtain ⟨a2, n2, c2, l2, rfl, B6, B5, rfl⟩ := h2
 exact l_minus_calls _ _ _ _ _ _ _ _ _ B1 B6 B4 B5 (by omega) hy
theorem ln_times {v1 v2 : Value} {x y K L : Nat} {w : World} (h1 : NatV .u64 18446744073709551616 w v1 x) (h2 : NatV .u64 18446744073709551616 w v2 y) (hx : x < 18446744073709551616 ^ K) (hy : y < 18446744073709551616 ^ L) (hK : K ≤ 1099511627776) (hL : L ≤ 1099511627776) :
  Calls Tryz.prog 80 #[v1, v2] w (RetN .u64 18446744073709551616 w (x * y)) := by
 obtain ⟨a1, n1, c1, l1, rfl, B1, B4, rfl, Ba⟩ := h1.szP hx
 obtain ⟨a2, n2, c2, l2, rfl, B6, B5, rfl, hn2⟩ := h2.szP hy
 exact l_times_calls _ _ _ _ _ _ _ _ _ B1 B6 B4 B5 (by omega) (by omega)
theorem ln_cmp {v1 v2 : Value} {x y : Nat} {w : World} (h1 : NatV .u64 18446744073709551616 w v1 x) (h2 : NatV .u64 18446744073709551616 w v2 y) :
  Calls Tryz.prog 82 #[v1, v2] w (RetV w (.int .i64 (ordN x y))) := by
 obtain ⟨a1, n1, c1, l1, rfl, B1, B4, rfl⟩ := h1
 obtain ⟨a2, n2, c2, l2, rfl, B6, B5, rfl⟩ := h2
 exact (l_cmp_calls _ _ _ _ _ _ _ _ _ B1 B6 B4 B5).mono fun e w' ⟨q, he, hw⟩ => ⟨he, by rw [hw]; exact below_drewN w q⟩
theorem ln_isOne {v : Value} {x : Nat} {w : World} (h : NatV .u64 18446744073709551616 w v x) : Calls Tryz.prog 128 #[v] w (RetV w (.bool (decide (x = 1)))) :=
 (l_isOne_calls v x w h).mono fun e w' ⟨he, hw⟩ => ⟨he, by rw [← hw]; exact Below.refl _ _⟩
theorem ln_gcd {v1 v2 : Value} {x y K : Nat} {w : World} (h1 : NatV .u64 18446744073709551616 w v1 x) (h2 : NatV .u64 18446744073709551616 w v2 y) (hx : x < 18446744073709551616 ^ K) (hy : y < 18446744073709551616 ^ K) (hK : K ≤ 1099511627774) :
  Calls Tryz.prog 127 #[v1, v2] w (RetN .u64 18446744073709551616 w (Nat.gcd x y)) := by
 obtain ⟨a1, n1, c1, l1, rfl, B1, B4, rfl, Ba⟩ := h1.szP hx
 obtain ⟨a2, n2, c2, l2, rfl, B6, B5, rfl, hn2⟩ := h2.szP hy
 exact l_gcd_calls _ _ _ _ _ _ _ _ _ B1 B6 B4 B5 (by omega) (by omega)
theorem ln_divide {v1 v2 : Value} {x y K : Nat} {w : World} (h1 : NatV .u64 18446744073709551616 w v1 x) (h2 : NatV .u64 18446744073709551616 w v2 y) (hx : x < 18446744073709551616 ^ K) (hy : 0 < y) (hK : K ≤ 1099511627774) :
  Calls Tryz.prog 129 #[v1, v2] w (RetNat2 .u64 18446744073709551616 w (x / y) (x % y)) := by
 obtain ⟨a1, n1, c1, l1, rfl, B1, B4, rfl, Ba⟩ := h1.szP hx
 obtain ⟨a2, n2, c2, l2, rfl, B6, B5, rfl⟩ := h2
 exact l_divide_calls _ _ _ _ _ _ _ _ _ B1 B6 B4 B5 (by omega) hy
theorem ln_text {v1 : Value} {x K : Nat} {w : World} (h1 : NatV .u64 18446744073709551616 w v1 x) (hx : x < 18446744073709551616 ^ K) (hK : K ≤ 536870912) :
  Calls Tryz.prog 108 #[v1] w (RetV w (strV (decS x))) := by
 obtain ⟨a1, n1, c1, l1, rfl, B1, B4, rfl, Ba⟩ := h1.szP hx
 exact l_text_calls _ _ _ _ _ B1 B4 (by omega)
theorem load_P {w : World} {g : Nat} {u0 u1 u2 : Value} {t : TypeId} (h : Bx w g t #[u0, u1, u2]) : (loadVar 32 ⟨g, 0, none⟩).run Tryz.prog w = .ok (.agg #[u0, u1, u2]) w := by
 have h0 := h.at 0 rfl
 have h1 := h.at 1 rfl
 have h2 := h.at 2 rfl
 simp [go_sem, h0, h1, h2]
theorem ret_P {fn : Func} {p : Tmp} {w0 w : World} {g : Nat} {q : Rat} {v1 v2 v3 : Value} {t : TypeId} {a : Act} (hr : fn.results = #[.cell p 32]) (ha : a.tmps.getD p undef = .pointer (some ⟨g, 0, none⟩)) (hdef : a.defers = [])
  (hbox : Bx w g t #[v1, v2, v3]) (h : PV w (.agg #[v1, v2, v3]) q) (hb : Below w0.heap.size w0 w) : bodyPost Tryz.prog fn (RetP w0 q) .ret a w :=
 bodyPost_ret (v := .agg #[v1, v2, v3]) (by rw [results_cell1 hr, ha]; exact load_P hbox) hdef ⟨_, rfl, h, hb⟩
theorem ret_PE {fn : Func} {p u : Tmp} {w0 w : World} {g : Nat} {q : Rat} {v1 v2 v3 : Value} {t : TypeId} {a : Act} {err : Int} (hr : fn.results = #[.cell p 32, .tmp u]) (ha : a.tmps.getD p undef = .pointer (some ⟨g, 0, none⟩)) (hu : a.tmps.getD u undef = .int .i64 err) (hdef : a.defers = [])
  (hbox : Bx w g t #[v1, v2, v3]) (h : PV w (.agg #[v1, v2, v3]) q) (hb : Below w0.heap.size w0 w) : bodyPost Tryz.prog fn (RetPE w0 q err) .ret a w := by
 refine bodyPost_ret (v := .tuple #[.agg #[v1, v2, v3], .int .i64 err]) ?_ hdef ⟨_, rfl, h, hb⟩
 rw [results_cell_tmp hr, ha, hu]
 simp only [asAddr, Sem.run_pure, Result.andThen_ok]
 rw [load_P hbox]
 rfl
theorem PV.of_eq {w : World} {v : Value} {q q' : Rat} (h : PV w v q) (e : q = q') : PV w v q' := e ▸ h
theorem PV.zero (w : World) : PV w (.agg #[.bool false, .slice none 0 0, .slice none 0 0]) 0 :=
 PV.mk' ⟨_, _, _, [], rfl, Sl.empty _ _ _ _ (by omega) (fun _ => rfl), Canon.nil _, rfl⟩ ⟨_, _, _, [], rfl, Sl.empty _ _ _ _ (by omega) (fun _ => rfl), Canon.nil _, rfl⟩ (n := 0) (d := 0) rfl rfl rfl
theorem p_under_calls (v : Value) (q : Nat) (w : World) (h0 : 0 < q) (h : NatV .u64 18446744073709551616 w v (if q = 1 then 0 else q)) : Calls Tryz.prog 81 #[v] w (RetN .u64 18446744073709551616 w q) := by
 by_cases h1 : q = 1
 ·subst h1
  rw [if_pos rfl] at h
  obtain ⟨ao, n, c, l, rfl, hs, hc, hv⟩ := h
  obtain rfl := hc.nil_of (by omega) hv
  have := hs.len
  simp at this
  subst this
  clear hs hc hv
  go_enter Tryz.func81, Tryz.ntmps81
  go_wp2_with fail
  refine (ln_word 1 _ (by omega)).mono ?_
  rintro e w1 ⟨_, rfl, hq, hb⟩
  go_wp2
  go_ret
  exact ⟨_, rfl, hq, hb⟩
 ·rw [if_neg h1] at h
  obtain ⟨ao, n, c, l, rfl, hs, hc, hv⟩ := h
  have hn : n ≤ 9223372036854775807 := by have := hs.cap; have := hs.max; omega
  have hn0 : 0 < n := by
   have := hc.length_pos_iff (by omega)
   rw [hs.len, hv] at this
   exact this.2 h0
  have Ba : ((n : Int) == 0) = false := by rw [beq_eq_false_iff_ne]; omega
  have HS := Lib.hid hs
  have HC := Lib.hid hc
  have HV := Lib.hid hv
  clear hs hc hv h1
  go_enter Tryz.func81, Tryz.ntmps81
  go_wp2
  go_ret
  exact ⟨_, rfl, ⟨_, _, _, _, rfl, HS.out, HC.out, HV.out⟩, Below.refl _ _⟩
theorem p_reduced_zero (neg : Bool) (a1 : Option Addr) (c1 : Nat) (vd : Value) (w : World) : Calls Tryz.prog 76 #[.bool neg, .slice a1 0 c1, vd] w (RetP w 0) := by
 go_enter Tryz.func76, Tryz.ntmps76
 go_wp2
 have hs := Below.refl w.heap.size w
 refine bodyPost.abs ?_
 intro w1 hW
 have B7 := hs.size
 have B1 : Below w.heap.size w w1 := by rw [hW]; exact (Below.alloc hs (by first | exact hs.size | (have := hs.size; simp; done) | (have := hs.size; simp; omega)) _)
 have hk : KeepD w w1 := by rw [hW]; exact ((KeepD.refl _).alloc _)
 have B2 : Bx w1 (w.heap.size) 32 #[.bool false, .slice none 0 0, .slice none 0 0] := by rw [hW]; exact (Bx.new' _ _ _ _ (by first | rfl | (simp; done)))
 replace hs := B1
 clear B1
 have B0 := B2
 clear B2
 clear hW hk B7
 have Bh := B0.lt
 exact ret_P rfl rfl rfl B0 (PV.zero _) hs
theorem p_reduced_pos (neg : Bool) (a1 a2 : Option Addr) (n1 c1 n2 c2 n d K : Nat) (w : World) (hn : NatV .u64 18446744073709551616 w (.slice a1 n1 c1) n) (hd : NatV .u64 18446744073709551616 w (.slice a2 n2 c2) d)
  (hn0 : 0 < n) (hd0 : 0 < d) (hK : K ≤ 1099511627774) (zn : n < 18446744073709551616 ^ K) (zd : d < 18446744073709551616 ^ K) :
  Calls Tryz.prog 76 #[.bool neg, .slice a1 n1 c1, .slice a2 n2 c2] w (RetP w (mkQ neg n d)) := by
 have Ba : ((n1 : Int) == 0) = false := by
  obtain ⟨ao, n', c, l, e, hs, hc, hv⟩ := hn
  injection e with e1 e2 e3
  subst e2
  have := hc.length_pos_iff (by omega)
  rw [hs.len, hv] at this
  rw [beq_eq_false_iff_ne]; have := this.2 hn0; omega
 have hn1' : n1 ≤ 9223372036854775807 := by
  obtain ⟨ao, n', c, l, e, hs, hc, hv⟩ := hn
  injection e with e1 e2 e3
  subst e2
  have := hs.cap; have := hs.max; omega
 have hq1 := mkQ_natAbs neg n d (by omega)
 have hq2 := mkQ_den neg n d (by omega)
 have hq3 := mkQ_ng neg n d (by omega) (by omega)
 generalize mkQ neg n d = q at *
 have hG0 := Nat.gcd_pos_of_pos_left d hn0
 have hdn := Nat.div_pos (Nat.le_of_dvd hd0 (Nat.gcd_dvd_right n d)) hG0
 generalize hG : Nat.gcd n d = G at *
 have HG := Lib.hid hG
 have Be := Lib.hid hq1
 have Bf := Lib.hid hq2
 have Bg := Lib.hid hq3
 have HDN := Lib.hid hdn
 clear hG hq1 hq2 hq3 hdn
 go_enter Tryz.func76, Tryz.ntmps76
 have hs := Below.refl w.heap.size w
 go_wp2_with fail
 refine Calls.abs ?_
 intro w1 hW
 have B7 := hs.size
 have B1 : Below w.heap.size w w1 := by rw [hW]; exact (Below.alloc hs (by first | exact hs.size | (have := hs.size; simp; done) | (have := hs.size; simp; omega)) _)
 have hk : KeepD w w1 := by rw [hW]; exact ((KeepD.refl _).alloc _)
 have B2 : Bx w1 (w.heap.size) 32 #[.bool false, .slice none 0 0, .slice none 0 0] := by rw [hW]; exact (Bx.new' _ _ _ _ (by first | rfl | (simp; done)))
 replace hs := B1
 clear B1
 have B0 := B2
 clear B2
 replace hn := hn.keep hk
 replace hd := hd.keep hk
 clear hW hk B7
 have Bh := B0.lt
 refine (ln_gcd hn hd zn zd hK).mono ?_
 rintro e w2 ⟨_, rfl, hg, hb⟩
 obtain ⟨ahg, nhg, chg, rfl⟩ := hg.shape
 replace hs := bStep hs hb
 replace B0 := B0.mono hb
 replace hn := hn.mono hb
 replace hd := hd.mono hb
 clear hb
 rw [HG.out] at hg
 by_cases B8 : G = 1
 ·have B3 : decide (G = 1) = true := by simp [B8]
  have HG1 := Lib.hid B8
  clear B8
  go_wp2_with fail
  refine (ln_isOne hg).mono ?_
  rintro e w3 ⟨rfl, hb⟩
  replace hs := bStep hs hb
  replace B0 := B0.mono hb
  replace hn := hn.mono hb
  replace hd := hd.mono hb
  replace hg := hg.mono hb
  clear hb
  rw [B3]
  clear B3
  have B8 := HG1.out
  by_cases hD1 : d = 1
  ·have B3 : decide (d = 1) = true := by simp [hD1]
   have B9 := Lib.hid hD1
   clear hD1
   go_wp2_with fail
   refine (ln_isOne hd).mono ?_
   rintro e w4 ⟨rfl, hb⟩
   replace hs := bStep hs hb
   replace B0 := B0.mono hb
   replace hn := hn.mono hb
   replace hd := hd.mono hb
   replace hg := hg.mono hb
   clear hb
   rw [B3]
   clear B3
   have Bb := B0.a0
   have Bc := B0.a1
   have Bd := B0.a2
   have fz := B0.free
   go_wp2
   refine bodyPost.abs ?_
   intro w5 hW
   have B7 := hs.size
   have lz := B0.lt
   have B1 : Below w.heap.size w w5 := by rw [hW]; exact (Below.setCell (Below.setCell (Below.setCell hs (by first | exact Nat.le_refl _ | omega | (have := hs.size; simp; done) | (have := hs.size; simp; omega)) _) (by first | exact Nat.le_refl _ | omega | (have := hs.size; simp; done) | (have := hs.size; simp; omega)) _) (by first | exact Nat.le_refl _ | omega | (have := hs.size; simp; done) | (have := hs.size; simp; omega)) _)
   have hk : KeepD w4 w5 := by rw [hW]; exact (KeepD.set (KeepD.set (KeepD.set (KeepD.refl _) B0.ty (by decide) _ _) (TyB.store B0.ty _ _) (by decide) _ _) (TyB.store (TyB.store B0.ty _ _) _ _) (by decide) _ _)
   have B2 : Bx w5 (w.heap.size) 32 #[.bool neg, .slice a1 n1 c1, .slice none 0 0] := by rw [hW]; exact (Bx.set (Bx.set (Bx.set B0 0 _ rfl) 1 _ rfl) 2 _ rfl)
   replace hs := B1
   clear B1
   replace B0 := B2
   clear B2
   replace hn := hn.keep hk
   replace hd := hd.keep hk
   replace hg := hg.keep hk
   clear hW hk B7 lz
   refine ret_P rfl rfl rfl B0 (PV.mk' hn (d := 0) ⟨_, _, _, [], rfl, Sl.empty _ _ _ _ (by omega) (fun _ => rfl), Canon.nil _, rfl⟩ Bg.out.symm ?_ ?_) hs
   ·rw [Be.out, B8, Nat.div_one]
   ·rw [Bf.out, B8, Nat.div_one, if_pos]
    exact B9.out
  ·have B3 : decide (d = 1) = false := by simp [hD1]
   have B9 := Lib.hid hD1
   clear hD1
   go_wp2_with fail
   refine (ln_isOne hd).mono ?_
   rintro e w4 ⟨rfl, hb⟩
   replace hs := bStep hs hb
   replace B0 := B0.mono hb
   replace hn := hn.mono hb
   replace hd := hd.mono hb
   replace hg := hg.mono hb
   clear hb
   rw [B3]
   clear B3
   have Bb := B0.a0
   have Bc := B0.a1
   have Bd := B0.a2
   have fz := B0.free
   go_wp2
   refine bodyPost.abs ?_
   intro w5 hW
   have B7 := hs.size
   have lz := B0.lt
   have B1 : Below w.heap.size w w5 := by rw [hW]; exact (Below.setCell (Below.setCell (Below.setCell hs (by first | exact Nat.le_refl _ | omega | (have := hs.size; simp; done) | (have := hs.size; simp; omega)) _) (by first | exact Nat.le_refl _ | omega | (have := hs.size; simp; done) | (have := hs.size; simp; omega)) _) (by first | exact Nat.le_refl _ | omega | (have := hs.size; simp; done) | (have := hs.size; simp; omega)) _)
   have hk : KeepD w4 w5 := by rw [hW]; exact (KeepD.set (KeepD.set (KeepD.set (KeepD.refl _) B0.ty (by decide) _ _) (TyB.store B0.ty _ _) (by decide) _ _) (TyB.store (TyB.store B0.ty _ _) _ _) (by decide) _ _)
   have B2 : Bx w5 (w.heap.size) 32 #[.bool neg, .slice a1 n1 c1, .slice a2 n2 c2] := by rw [hW]; exact (Bx.set (Bx.set (Bx.set B0 0 _ rfl) 1 _ rfl) 2 _ rfl)
   replace hs := B1
   clear B1
   replace B0 := B2
   clear B2
   replace hn := hn.keep hk
   replace hd := hd.keep hk
   replace hg := hg.keep hk
   clear hW hk B7 lz
   refine ret_P rfl rfl rfl B0 (PV.mk' hn (d := d) hd Bg.out.symm ?_ ?_) hs
   ·rw [Be.out, B8, Nat.div_one]
   ·rw [Bf.out, B8, Nat.div_one, if_neg]
    exact B9.out
 ·have B3 : decide (G = 1) = false := by simp [B8]
  clear B8
  go_wp2_with fail
  refine (ln_isOne hg).mono ?_
  rintro e w3 ⟨rfl, hb⟩
  replace hs := bStep hs hb
  replace B0 := B0.mono hb
  replace hn := hn.mono hb
  replace hd := hd.mono hb
  replace hg := hg.mono hb
  clear hb
  rw [B3]
  clear B3
  go_wp2_with fail
  refine (ln_divide hn hg zn hG0 hK).mono ?_
  rintro e w4 ⟨_, _, rfl, hN, hN', hb⟩
  obtain ⟨ahN, nhN, chN, rfl⟩ := hN.shape
  obtain ⟨_, _, _, rfl⟩ := hN'.shape
  clear hN'
  replace hs := bStep hs hb
  replace B0 := B0.mono hb
  replace hn := hn.mono hb
  replace hd := hd.mono hb
  replace hg := hg.mono hb
  clear hb
  go_wp2_with fail
  refine (ln_divide hd hg zd hG0 hK).mono ?_
  rintro e w5 ⟨_, _, rfl, hD, hD', hb⟩
  obtain ⟨ahD, nhD, chD, rfl⟩ := hD.shape
  obtain ⟨_, _, _, rfl⟩ := hD'.shape
  clear hD'
  replace hs := bStep hs hb
  replace B0 := B0.mono hb
  replace hn := hn.mono hb
  replace hd := hd.mono hb
  replace hg := hg.mono hb
  replace hN := hN.mono hb
  clear hb
  by_cases hD1 : (d / G) = 1
  ·have B3 : decide ((d / G) = 1) = true := by simp [hD1]
   have B9 := Lib.hid hD1
   clear hD1
   go_wp2_with fail
   refine (ln_isOne hD).mono ?_
   rintro e w6 ⟨rfl, hb⟩
   replace hs := bStep hs hb
   replace B0 := B0.mono hb
   replace hn := hn.mono hb
   replace hd := hd.mono hb
   replace hg := hg.mono hb
   replace hN := hN.mono hb
   replace hD := hD.mono hb
   clear hb
   rw [B3]
   clear B3
   have Bb := B0.a0
   have Bc := B0.a1
   have Bd := B0.a2
   have fz := B0.free
   go_wp2
   refine bodyPost.abs ?_
   intro w7 hW
   have B7 := hs.size
   have lz := B0.lt
   have B1 : Below w.heap.size w w7 := by rw [hW]; exact (Below.setCell (Below.setCell (Below.setCell hs (by first | exact Nat.le_refl _ | omega | (have := hs.size; simp; done) | (have := hs.size; simp; omega)) _) (by first | exact Nat.le_refl _ | omega | (have := hs.size; simp; done) | (have := hs.size; simp; omega)) _) (by first | exact Nat.le_refl _ | omega | (have := hs.size; simp; done) | (have := hs.size; simp; omega)) _)
   have hk : KeepD w6 w7 := by rw [hW]; exact (KeepD.set (KeepD.set (KeepD.set (KeepD.refl _) B0.ty (by decide) _ _) (TyB.store B0.ty _ _) (by decide) _ _) (TyB.store (TyB.store B0.ty _ _) _ _) (by decide) _ _)
   have B2 : Bx w7 (w.heap.size) 32 #[.bool neg, .slice ahN nhN chN, .slice none 0 0] := by rw [hW]; exact (Bx.set (Bx.set (Bx.set B0 0 _ rfl) 1 _ rfl) 2 _ rfl)
   replace hs := B1
   clear B1
   replace B0 := B2
   clear B2
   replace hn := hn.keep hk
   replace hd := hd.keep hk
   replace hg := hg.keep hk
   replace hN := hN.keep hk
   replace hD := hD.keep hk
   clear hW hk B7 lz
   refine ret_P rfl rfl rfl B0 (PV.mk' hN (d := 0) ⟨_, _, _, [], rfl, Sl.empty _ _ _ _ (by omega) (fun _ => rfl), Canon.nil _, rfl⟩ Bg.out.symm ?_ ?_) hs
   ·rw [Be.out]
   ·rw [Bf.out, if_pos]
    exact B9.out
  ·have B3 : decide ((d / G) = 1) = false := by simp [hD1]
   have B9 := Lib.hid hD1
   clear hD1
   go_wp2_with fail
   refine (ln_isOne hD).mono ?_
   rintro e w6 ⟨rfl, hb⟩
   replace hs := bStep hs hb
   replace B0 := B0.mono hb
   replace hn := hn.mono hb
   replace hd := hd.mono hb
   replace hg := hg.mono hb
   replace hN := hN.mono hb
   replace hD := hD.mono hb
   clear hb
   rw [B3]
   clear B3
   have Bb := B0.a0
   have Bc := B0.a1
   have Bd := B0.a2
   have fz := B0.free
   go_wp2
   refine bodyPost.abs ?_
   intro w7 hW
   have B7 := hs.size
   have lz := B0.lt
   have B1 : Below w.heap.size w w7 := by rw [hW]; exact (Below.setCell (Below.setCell (Below.setCell hs (by first | exact Nat.le_refl _ | omega | (have := hs.size; simp; done) | (have := hs.size; simp; omega)) _) (by first | exact Nat.le_refl _ | omega | (have := hs.size; simp; done) | (have := hs.size; simp; omega)) _) (by first | exact Nat.le_refl _ | omega | (have := hs.size; simp; done) | (have := hs.size; simp; omega)) _)
   have hk : KeepD w6 w7 := by rw [hW]; exact (KeepD.set (KeepD.set (KeepD.set (KeepD.refl _) B0.ty (by decide) _ _) (TyB.store B0.ty _ _) (by decide) _ _) (TyB.store (TyB.store B0.ty _ _) _ _) (by decide) _ _)
   have B2 : Bx w7 (w.heap.size) 32 #[.bool neg, .slice ahN nhN chN, .slice ahD nhD chD] := by rw [hW]; exact (Bx.set (Bx.set (Bx.set B0 0 _ rfl) 1 _ rfl) 2 _ rfl)
   replace hs := B1
   clear B1
   replace B0 := B2
   clear B2
   replace hn := hn.keep hk
   replace hd := hd.keep hk
   replace hg := hg.keep hk
   replace hN := hN.keep hk
   replace hD := hD.keep hk
   clear hW hk B7 lz
   refine ret_P rfl rfl rfl B0 (PV.mk' hN (d := (d / G)) hD Bg.out.symm ?_ ?_) hs
   ·rw [Be.out]
   ·rw [Bf.out, if_neg]
    exact B9.out
theorem p_reduced_calls (neg : Bool) (vn vd : Value) (n d K : Nat) (w : World) (hn : NatV .u64 18446744073709551616 w vn n) (hd : NatV .u64 18446744073709551616 w vd d) (hd0 : 0 < d) (hK : K ≤ 1099511627774)
  (zn : n < 18446744073709551616 ^ K) (zd : d < 18446744073709551616 ^ K) : Calls Tryz.prog 76 #[.bool neg, vn, vd] w (RetP w (mkQ neg n d)) := by
 obtain ⟨a2, n2, c2, rfl⟩ := hd.shape
 rcases Nat.eq_zero_or_pos n with h | h
 ·subst h
  obtain ⟨ao, n', c, l, rfl, hs, hc, hv⟩ := hn
  obtain rfl := hc.nil_of (by omega) hv
  have := hs.len
  simp at this
  subst this
  rw [mkQ_zero]
  exact p_reduced_zero _ _ _ _ _
 ·obtain ⟨a1, n1, c1, rfl⟩ := hn.shape
  exact p_reduced_pos neg _ _ _ _ _ _ n d K w hn hd h hd0 hK zn zd
end Go.Proofs.YtkfekkhhfpkfaaaGreat
namespace Go.Proofs.YtkfekkhhfpkfaaaGreat
open Go.RowKit Dg
attribute [local go_sem ↓] Go.wp_at_zero Go.wp_at_succ
theorem lt_pow1P {n : Nat} (h : n ≤ 9223372036854775808) : n < 18446744073709551616 ^ 1 := by omega
theorem p_size_calls (n : Int) (w : World) (h0 : -9223372036854775808 ≤ n) (h1 : n ≤ 9223372036854775807) : Calls Tryz.prog 104 #[.int .i64 n] w (RetN .u64 18446744073709551616 w n.natAbs) := by
 by_cases hn : n < 0
 ·go_enter Tryz.func104, Tryz.ntmps104
  go_wp2_with fail
  rw [show IntKind.u64.wrap (-IntKind.u64.wrap n) = ((n.natAbs : Nat) : Int) from by show (-(n % 18446744073709551616)) % 18446744073709551616 = _; omega]
  refine (ln_word n.natAbs _ (by omega)).mono ?_
  rintro e w1 ⟨_, rfl, hv, hb⟩
  go_wp2
  go_ret
  exact ⟨_, rfl, hv, hb⟩
 ·obtain ⟨m, rfl⟩ := Int.eq_ofNat_of_zero_le (show 0 ≤ n by omega)
  rw [Int.natAbs_natCast]
  go_enter Tryz.func104, Tryz.ntmps104
  go_wp2_with fail
  refine (ln_word m _ (by omega)).mono ?_
  rintro e w1 ⟨_, rfl, hv, hb⟩
  go_wp2
  go_ret
  exact ⟨_, rfl, hv, hb⟩
theorem p_Int_calls (n : Int) (w : World) (h0 : -9223372036854775808 ≤ n) (h1 : n ≤ 9223372036854775807) : Calls Tryz.prog 45 #[.int .i64 n] w (RetP w (n : Rat)) := by
 have hng : decide (n < 0) = ng (n : Rat) := by unfold ng; rw [Rat.num_intCast]
 generalize hneg : decide (n < 0) = b at *
 have HNG := Lib.hid hng
 clear hng
 go_enter Tryz.func45, Tryz.ntmps45
 have hs := Below.refl w.heap.size w
 go_wp2_with fail
 refine Calls.abs ?_
 intro w1 hW
 have Bg := hs.size
 have B4 : Below w.heap.size w w1 := by rw [hW]; exact (Below.alloc hs (by first | exact hs.size | (have := hs.size; simp; done) | (have := hs.size; simp; omega)) _)
 have hk : KeepD w w1 := by rw [hW]; exact ((KeepD.refl _).alloc _)
 have B2 : Bx w1 (w.heap.size) 32 #[.bool false, .slice none 0 0, .slice none 0 0] := by rw [hW]; exact (Bx.new' _ _ _ _ (by first | rfl | (simp; done)))
 replace hs := B4
 clear B4
 have B0 := B2
 clear B2
 clear hW hk Bg
 have Bl := B0.lt
 refine (p_size_calls n _ h0 h1).mono ?_
 rintro e w2 ⟨_, rfl, hm, hb⟩
 obtain ⟨ahm, nhm, chm, rfl⟩ := hm.shape
 replace hs := bStep hs hb
 replace B0 := B0.mono hb
 clear hb
 have Bo := B0.a0
 have Bp := B0.a1
 have Bq := B0.a2
 have fz := B0.free
 go_wp2
 refine bodyPost.abs ?_
 intro w3 hW
 have Bg := hs.size
 have lz := B0.lt
 have B4 : Below w.heap.size w w3 := by rw [hW]; exact (Below.setCell (Below.setCell (Below.setCell hs (by first | exact Nat.le_refl _ | omega | (have := hs.size; simp; done) | (have := hs.size; simp; omega)) _) (by first | exact Nat.le_refl _ | omega | (have := hs.size; simp; done) | (have := hs.size; simp; omega)) _) (by first | exact Nat.le_refl _ | omega | (have := hs.size; simp; done) | (have := hs.size; simp; omega)) _)
 have hk : KeepD w2 w3 := by rw [hW]; exact (KeepD.set (KeepD.set (KeepD.set (KeepD.refl _) B0.ty (by decide) _ _) (TyB.store B0.ty _ _) (by decide) _ _) (TyB.store (TyB.store B0.ty _ _) _ _) (by decide) _ _)
 have B2 : Bx w3 (w.heap.size) 32 #[.bool b, .slice ahm nhm chm, .slice none 0 0] := by rw [hW]; exact (Bx.set (Bx.set (Bx.set B0 0 _ rfl) 1 _ rfl) 2 _ rfl)
 replace hs := B4
 clear B4
 replace B0 := B2
 clear B2
 replace hm := hm.keep hk
 clear hW hk Bg lz
 exact ret_P rfl rfl rfl B0 (PV.mk' hm (d := 0) ⟨_, _, _, [], rfl, Sl.empty _ _ _ _ (by omega) (fun _ => rfl), Canon.nil _, rfl⟩ HNG.out (by rw [Rat.num_intCast]) (by rw [Rat.den_intCast]; rfl)) hs
theorem p_New_calls (n d : Int) (w : World) (h0 : -9223372036854775808 ≤ n) (h1 : n ≤ 9223372036854775807) (d0 : -9223372036854775808 ≤ d) (d1 : d ≤ 9223372036854775807) (hd : d ≠ 0) : Calls Tryz.prog 85 #[.int .i64 n, .int .i64 d] w (RetPE w ((n : Rat) / (d : Rat)) 0) := by
 rw [frac_mk n d hd]
 have z1 : n.natAbs < 18446744073709551616 ^ 1 := lt_pow1P (by omega)
 have z2 : d.natAbs < 18446744073709551616 ^ 1 := lt_pow1P (by omega)
 have o1 : 0 < d.natAbs := by omega
 have o2 : 1 ≤ 1099511627774 := by omega
 have hd' : (d == 0) = false := by rw [beq_eq_false_iff_ne]; exact hd
 have Z1 := Lib.hid z1
 have Z2 := Lib.hid z2
 clear z1 z2 hd
 generalize hneg : decide (n < 0) = b
 generalize hneg' : decide (d < 0) = c
 go_enter Tryz.func85, Tryz.ntmps85
 have hs := Below.refl w.heap.size w
 go_wp2_with fail
 refine Calls.abs ?_
 intro w1 hW
 have Bg := hs.size
 have B4 : Below w.heap.size w w1 := by rw [hW]; exact (Below.alloc hs (by first | exact hs.size | (have := hs.size; simp; done) | (have := hs.size; simp; omega)) _)
 have hk : KeepD w w1 := by rw [hW]; exact ((KeepD.refl _).alloc _)
 have B2 : Bx w1 (w.heap.size) 32 #[.bool false, .slice none 0 0, .slice none 0 0] := by rw [hW]; exact (Bx.new' _ _ _ _ (by first | rfl | (simp; done)))
 replace hs := B4
 clear B4
 have B0 := B2
 clear B2
 clear hW hk Bg
 have Bl := B0.lt
 refine (p_size_calls n _ h0 h1).mono ?_
 rintro e w2 ⟨_, rfl, hm, hb⟩
 obtain ⟨ahm, nhm, chm, rfl⟩ := hm.shape
 replace hs := bStep hs hb
 replace B0 := B0.mono hb
 clear hb
 go_wp2_with fail
 refine (p_size_calls d _ d0 d1).mono ?_
 rintro e w3 ⟨_, rfl, C0, hb⟩
 obtain ⟨ahm2, nhm2, chm2, rfl⟩ := C0.shape
 replace hs := bStep hs hb
 replace B0 := B0.mono hb
 replace hm := hm.mono hb
 clear hb
 go_wp2_with fail
 refine (p_reduced_calls _ _ _ _ _ _ _ hm C0 o1 o2 Z1.out Z2.out).mono ?_
 rintro e w4 ⟨_, rfl, hQ, hb⟩
 obtain ⟨shQ, Bw, Bz, By, Bt, Bv, Bu, rfl⟩ := hQ.shape
 replace hs := bStep hs hb
 replace B0 := B0.mono hb
 replace hm := hm.mono hb
 replace C0 := C0.mono hb
 clear hb
 have Bo := B0.a0
 have Bp := B0.a1
 have Bq := B0.a2
 have fz := B0.free
 go_wp2
 refine bodyPost.abs ?_
 intro w5 hW
 have Bg := hs.size
 have lz := B0.lt
 have B4 : Below w.heap.size w w5 := by rw [hW]; exact (Below.setCell (Below.setCell (Below.setCell hs (by first | exact Nat.le_refl _ | omega | (have := hs.size; simp; done) | (have := hs.size; simp; omega)) _) (by first | exact Nat.le_refl _ | omega | (have := hs.size; simp; done) | (have := hs.size; simp; omega)) _) (by first | exact Nat.le_refl _ | omega | (have := hs.size; simp; done) | (have := hs.size; simp; omega)) _)
 have hk : KeepD w4 w5 := by rw [hW]; exact (KeepD.set (KeepD.set (KeepD.set (KeepD.refl _) B0.ty (by decide) _ _) (TyB.store B0.ty _ _) (by decide) _ _) (TyB.store (TyB.store B0.ty _ _) _ _) (by decide) _ _)
 have B2 : Bx w5 (w.heap.size) 32 #[.bool shQ, .slice Bw Bz By, .slice Bt Bv Bu] := by rw [hW]; exact (Bx.set (Bx.set (Bx.set B0 0 _ rfl) 1 _ rfl) 2 _ rfl)
 replace hs := B4
 clear B4
 replace B0 := B2
 clear B2
 replace hm := hm.keep hk
 replace C0 := C0.keep hk
 replace hQ := hQ.keep hk
 clear hW hk Bg lz
 exact ret_PE rfl rfl rfl rfl B0 (hQ.of_eq (by cases b <;> cases c <;> rfl)) hs
theorem p_Zero_calls (vx : Value) (x : Rat) (w : World) (hx : PV w vx x) : Calls Tryz.prog 131 #[vx] w (RetV w (.bool (decide (x = 0)))) := by
 obtain ⟨gx, ax, nx, cx, Ax, Nx, Cx, rfl⟩ := hx.shape
 have Bi := hx.sign
 have Br := Lib.hid Bi
 have Bc := hx.parts.2.1
 have Bd := hx.parts.2.2
 have hb : nx ≤ 9223372036854775807 := by
  obtain ⟨ao, n, c, l, e, C7, hcl, hvl⟩ := Bc
  cases e
  have := C7.cap; have := C7.max; omega
 have Bs : decide (x = 0) = ((nx : Int) == 0) := by
  obtain ⟨ao, n, c, l, e, C7, hcl, hvl⟩ := Bc
  cases e
  rw [Bool.eq_iff_iff, decide_eq_true_eq, beq_iff_eq, ← natAbs_zero_iff, ← hvl]
  have := hcl.length_pos_iff (by omega)
  rw [C7.len] at this
  omega
 rw [Bs]
 clear Bs Bc Bd hx
 clear Bi
 go_enter Tryz.func131, Tryz.ntmps131
 go_wp2
 go_ret
 exact ⟨rfl, (Below.refl _ _).alloc (Nat.le_refl _) _⟩
theorem p_Sign_calls (vx : Value) (x : Rat) (w : World) (hx : PV w vx x) : Calls Tryz.prog 79 #[vx] w (RetV w (.int .i64 (sgQ x))) := by
 obtain ⟨gx, ax, nx, cx, Ax, Nx, Cx, rfl⟩ := hx.shape
 have Bi := hx.sign
 have Br := Lib.hid Bi
 have C8 : sgQ x = if ng x then -1 else if decide (x = 0) then 0 else 1 := by
  unfold sgQ ng
  by_cases h0 : x = 0
  ·subst h0; decide
  ·have hn0 : x.num ≠ 0 := fun h => h0 (Rat.num_eq_zero.1 h)
   by_cases hneg : x.num < 0 <;> simp [h0, hn0, hneg]
 rw [C8, ← Bi]
 clear C8
 generalize Bs : decide (x = 0) = z at *
 clear Bi
 have hs := Below.refl w.heap.size w
 cases gx <;> cases z
 ·go_enter Tryz.func79, Tryz.ntmps79
  go_wp2_with fail
  refine Calls.abs ?_
  intro w1 hW
  have Bg := hs.size
  have B4 : Below w.heap.size w w1 := by rw [hW]; exact (Below.alloc hs (by first | exact hs.size | (have := hs.size; simp; done) | (have := hs.size; simp; omega)) _)
  have hk : KeepD w w1 := by rw [hW]; exact ((KeepD.refl _).alloc _)
  have B3 : Bx w1 (w.heap.size) 32 #[.bool false, .slice ax nx cx, .slice Ax Nx Cx] := by rw [hW]; exact (Bx.new' _ _ _ _ (by first | rfl | (simp; done)))
  replace hs := B4
  clear B4
  have B1 := B3
  clear B3
  replace hx := hx.keep hk
  clear hW hk Bg
  have Bl := B1.lt
  refine (p_Zero_calls _ _ _ hx).mono ?_
  rintro e w2 ⟨rfl, hb⟩
  replace hs := bStep hs hb
  replace B1 := B1.mono hb
  replace hx := hx.mono hb
  clear hb
  rw [Bs]
  go_wp2
  go_ret
  exact ⟨rfl, hs⟩
 ·go_enter Tryz.func79, Tryz.ntmps79
  go_wp2_with fail
  refine Calls.abs ?_
  intro w1 hW
  have Bg := hs.size
  have B4 : Below w.heap.size w w1 := by rw [hW]; exact (Below.alloc hs (by first | exact hs.size | (have := hs.size; simp; done) | (have := hs.size; simp; omega)) _)
  have hk : KeepD w w1 := by rw [hW]; exact ((KeepD.refl _).alloc _)
  have B3 : Bx w1 (w.heap.size) 32 #[.bool false, .slice ax nx cx, .slice Ax Nx Cx] := by rw [hW]; exact (Bx.new' _ _ _ _ (by first | rfl | (simp; done)))
  replace hs := B4
  clear B4
  have B1 := B3
  clear B3
  replace hx := hx.keep hk
  clear hW hk Bg
  have Bl := B1.lt
  refine (p_Zero_calls _ _ _ hx).mono ?_
  rintro e w2 ⟨rfl, hb⟩
  replace hs := bStep hs hb
  replace B1 := B1.mono hb
  replace hx := hx.mono hb
  clear hb
  rw [Bs]
  go_wp2
  go_ret
  exact ⟨rfl, hs⟩
 all_goals
  go_enter Tryz.func79, Tryz.ntmps79
  go_wp2
  go_ret
  exact ⟨rfl, (Below.refl _ _).alloc (Nat.le_refl _) _⟩
theorem ng_abs (x : Rat) : ng (absQ x) = false := by
 unfold absQ ng
 by_cases h : x.num < 0
 ·simp only [h, decide_true, if_true, Rat.neg_num]; rw [decide_eq_false_iff_not]; omega
 ·simp [h]
theorem absQ_num (x : Rat) : (absQ x).num.natAbs = x.num.natAbs := by unfold absQ; split <;> simp [Rat.neg_num]
theorem absQ_den (x : Rat) : (absQ x).den = x.den := by unfold absQ; split <;> simp [Rat.neg_den]
theorem PV.abs {w : World} {x : Rat} {s v1 v2 : Value} (h : PV w (.agg #[s, v1, v2]) x) : PV w (.agg #[.bool false, v1, v2]) (absQ x) := by
 obtain ⟨_, h1, h2⟩ := h.parts
 exact PV.mk' h1 h2 (ng_abs x).symm (absQ_num x).symm (by rw [absQ_den])
theorem PV.neg {w : World} {x : Rat} {s v1 v2 : Value} {b : Bool} (h : PV w (.agg #[s, v1, v2]) x) (hb : b = (!ng x && !decide (x = 0))) : PV w (.agg #[.bool b, v1, v2]) (-x) := by
 obtain ⟨_, h1, h2⟩ := h.parts
 exact PV.mk' h1 h2 (by rw [hb, ng_neg]; simp) (by rw [Rat.neg_num, Int.natAbs_neg]) (by rw [Rat.neg_den])
theorem p_Abs_calls (vx : Value) (x : Rat) (w : World) (hx : PV w vx x) : Calls Tryz.prog 17 #[vx] w (RetP w (absQ x)) := by
 obtain ⟨gx, ax, nx, cx, Ax, Nx, Cx, rfl⟩ := hx.shape
 have Bi := hx.sign
 have Br := Lib.hid Bi
 have hQ := hx.abs
 clear hx
 clear Bi
 have hs := Below.refl w.heap.size w
 go_enter Tryz.func17, Tryz.ntmps17
 go_wp2
 refine bodyPost.abs ?_
 intro w1 hW
 have Bg := hs.size
 have B4 : Below w.heap.size w w1 := by rw [hW]; exact (Below.alloc (Below.alloc hs (by first | exact hs.size | (have := hs.size; simp; done) | (have := hs.size; simp; omega)) _) (by first | exact hs.size | (have := hs.size; simp; done) | (have := hs.size; simp; omega)) _)
 have hk : KeepD w w1 := by rw [hW]; exact (((KeepD.refl _).alloc _).alloc _)
 have B3 : Bx w1 (w.heap.size) 32 #[.bool gx, .slice ax nx cx, .slice Ax Nx Cx] := by rw [hW]; exact ((Bx.new' _ _ _ _ (by first | rfl | (simp; done))).alloc _)
 have B2 : Bx w1 (w.heap.size + 1) 32 #[.bool false, .slice ax nx cx, .slice Ax Nx Cx] := by rw [hW]; exact (Bx.new' _ _ _ _ (by first | rfl | (simp; done)))
 replace hs := B4
 clear B4
 have B1 := B3
 clear B3
 have B0 := B2
 clear B2
 replace hQ := hQ.keep hk
 clear hW hk Bg
 have Bl := B0.lt
 exact ret_P rfl rfl rfl B0 hQ hs
theorem p_Neg_calls (vx : Value) (x : Rat) (w : World) (hx : PV w vx x) : Calls Tryz.prog 106 #[vx] w (RetP w (-x)) := by
 obtain ⟨gx, ax, nx, cx, Ax, Nx, Cx, rfl⟩ := hx.shape
 have Bi := hx.sign
 have Br := Lib.hid Bi
 have hs := Below.refl w.heap.size w
 clear Bi
 cases gx
 ·go_enter Tryz.func106, Tryz.ntmps106
  go_wp2_with fail
  refine Code.abs ?_
  intro w1 hW
  have Bg := hs.size
  have B4 : Below w.heap.size w w1 := by rw [hW]; exact (Below.alloc (Below.alloc hs (by first | exact hs.size | (have := hs.size; simp; done) | (have := hs.size; simp; omega)) _) (by first | exact hs.size | (have := hs.size; simp; done) | (have := hs.size; simp; omega)) _)
  have hk : KeepD w w1 := by rw [hW]; exact (((KeepD.refl _).alloc _).alloc _)
  have B3 : Bx w1 (w.heap.size) 32 #[.bool false, .slice ax nx cx, .slice Ax Nx Cx] := by rw [hW]; exact ((Bx.new' _ _ _ _ (by first | rfl | (simp; done))).alloc _)
  have B2 : Bx w1 (w.heap.size + 1) 32 #[.bool false, .slice none 0 0, .slice none 0 0] := by rw [hW]; exact (Bx.new' _ _ _ _ (by first | rfl | (simp; done)))
  replace hs := B4
  clear B4
  have B1 := B3
  clear B3
  have B0 := B2
  clear B2
  replace hx := hx.keep hk
  clear hW hk Bg
  have Bl := B0.lt
  have hb := bDrew w1
  replace hs := bStep hs hb
  replace B1 := B1.mono hb
  replace B0 := B0.mono hb
  replace hx := hx.mono hb
  clear hb
  have B5 := B1.a0
  have B6 := B1.a1
  have B7 := B1.a2
  go_region_held3 (fun w' => w'.cell? ⟨w.heap.size, 0, none⟩ = some (.bool false) ∧ w'.cell? ⟨w.heap.size, 1, none⟩ = some (.slice ax nx cx) ∧ w'.cell? ⟨w.heap.size, 2, none⟩ = some (.slice Ax Nx Cx))
   (first | exact ⟨B5, B6, B7⟩ | exact ⟨cellO (cellO (cellO (B5) (by first | omega | (have := hs.size; simp; done) | (have := hs.size; simp; omega))) (by first | omega | (have := hs.size; simp; done) | (have := hs.size; simp; omega))) (by first | omega | (have := hs.size; simp; done) | (have := hs.size; simp; omega)), cellO (cellO (cellO (B6) (by first | omega | (have := hs.size; simp; done) | (have := hs.size; simp; omega))) (by first | omega | (have := hs.size; simp; done) | (have := hs.size; simp; omega))) (by first | omega | (have := hs.size; simp; done) | (have := hs.size; simp; omega)), cellO (cellO (cellO (B7) (by first | omega | (have := hs.size; simp; done) | (have := hs.size; simp; omega))) (by first | omega | (have := hs.size; simp; done) | (have := hs.size; simp; omega))) (by first | omega | (have := hs.size; simp; done) | (have := hs.size; simp; omega))⟩ | go_keep)
   (first
    | (go_at_call 131; (with_reducible refine (p_Zero_calls _ _ _ hx).mono ?_); rintro e w2 ⟨rfl, hb⟩; replace hs := bStep hs hb; replace B1 := B1.mono hb; replace B0 := B0.mono hb; replace hx := hx.mono hb; replace B5 := cellK B5 hb; replace B6 := cellK B6 hb; replace B7 := cellK B7 hb; clear hb; have Bo : w2.cell? ⟨w.heap.size + 1, 0, none⟩ = some (.bool false) := B0.at 0 rfl; have Bp : w2.cell? ⟨w.heap.size + 1, 1, none⟩ = some (.slice none 0 0) := B0.at 1 rfl; have Bq : w2.cell? ⟨w.heap.size + 1, 2, none⟩ = some (.slice none 0 0) := B0.at 2 rfl; have fz := B0.free))
  clear B5 B6 B7
  go_wp2
  refine bodyPost.abs ?_
  intro w3 hW
  have Bg := hs.size
  have lx := B1.lt
  have lz := B0.lt
  have B4 : Below w.heap.size w w3 := by rw [hW]; exact (Below.setCell (Below.setCell (Below.setCell hs (by first | exact Nat.le_refl _ | omega | (have := hs.size; simp; done) | (have := hs.size; simp; omega)) _) (by first | exact Nat.le_refl _ | omega | (have := hs.size; simp; done) | (have := hs.size; simp; omega)) _) (by first | exact Nat.le_refl _ | omega | (have := hs.size; simp; done) | (have := hs.size; simp; omega)) _)
  have hk : KeepD w2 w3 := by rw [hW]; exact (KeepD.set (KeepD.set (KeepD.set (KeepD.refl _) B0.ty (by decide) _ _) (TyB.store B0.ty _ _) (by decide) _ _) (TyB.store (TyB.store B0.ty _ _) _ _) (by decide) _ _)
  have B3 : Bx w3 (w.heap.size) 32 #[.bool false, .slice ax nx cx, .slice Ax Nx Cx] := by rw [hW]; exact (Bx.far (Bx.far (Bx.far B1 (by first | omega | (simp; done) | (simp; omega)) _) (by first | omega | (simp; done) | (simp; omega)) _) (by first | omega | (simp; done) | (simp; omega)) _)
  have B2 : Bx w3 (w.heap.size + 1) 32 #[.bool (!decide (x = 0)), .slice ax nx cx, .slice Ax Nx Cx] := by rw [hW]; exact (Bx.set (Bx.set (Bx.set B0 0 _ rfl) 1 _ rfl) 2 _ rfl)
  replace hs := B4
  clear B4
  replace B1 := B3
  clear B3
  replace B0 := B2
  clear B2
  replace hx := hx.keep hk
  clear hW hk Bg lx lz
  exact ret_P rfl rfl rfl B0 (hx.neg (by rw [← Br.out]; rfl)) hs
 ·go_enter Tryz.func106, Tryz.ntmps106
  go_wp2_with fail
  refine Code.abs ?_
  intro w1 hW
  have Bg := hs.size
  have B4 : Below w.heap.size w w1 := by rw [hW]; exact (Below.alloc (Below.alloc hs (by first | exact hs.size | (have := hs.size; simp; done) | (have := hs.size; simp; omega)) _) (by first | exact hs.size | (have := hs.size; simp; done) | (have := hs.size; simp; omega)) _)
  have hk : KeepD w w1 := by rw [hW]; exact (((KeepD.refl _).alloc _).alloc _)
  have B3 : Bx w1 (w.heap.size) 32 #[.bool true, .slice ax nx cx, .slice Ax Nx Cx] := by rw [hW]; exact ((Bx.new' _ _ _ _ (by first | rfl | (simp; done))).alloc _)
  have B2 : Bx w1 (w.heap.size + 1) 32 #[.bool false, .slice none 0 0, .slice none 0 0] := by rw [hW]; exact (Bx.new' _ _ _ _ (by first | rfl | (simp; done)))
  replace hs := B4
  clear B4
  have B1 := B3
  clear B3
  have B0 := B2
  clear B2
  replace hx := hx.keep hk
  clear hW hk Bg
  have Bl := B0.lt
  have B5 := B1.a0
  have B6 := B1.a1
  have B7 := B1.a2
  have Bo := B0.a0
  have Bp := B0.a1
  have Bq := B0.a2
  have fz := B0.free
  go_still_tail 13, (by kernel_rfl)
  change wpList _ _ _ _ _ (World.drew _)
  go_wp2
  refine bodyPost.abs ?_
  intro w2 hW
  have Bg := hs.size
  have lx := B1.lt
  have lz := B0.lt
  have B4 : Below w.heap.size w w2 := by rw [hW]; exact (Below.setCell (Below.setCell (Below.setCell (Below.drew hs) (by first | exact Nat.le_refl _ | omega | (have := hs.size; simp; done) | (have := hs.size; simp; omega)) _) (by first | exact Nat.le_refl _ | omega | (have := hs.size; simp; done) | (have := hs.size; simp; omega)) _) (by first | exact Nat.le_refl _ | omega | (have := hs.size; simp; done) | (have := hs.size; simp; omega)) _)
  have hk : KeepD w1 w2 := by rw [hW]; exact (KeepD.set (KeepD.set (KeepD.set ((KeepD.refl _).drew) (B0.ty.drew) (by decide) _ _) (TyB.store (B0.ty.drew) _ _) (by decide) _ _) (TyB.store (TyB.store (B0.ty.drew) _ _) _ _) (by decide) _ _)
  have B3 : Bx w2 (w.heap.size) 32 #[.bool true, .slice ax nx cx, .slice Ax Nx Cx] := by rw [hW]; exact (Bx.far (Bx.far (Bx.far (B1.drew) (by first | omega | (simp; done) | (simp; omega)) _) (by first | omega | (simp; done) | (simp; omega)) _) (by first | omega | (simp; done) | (simp; omega)) _)
  have B2 : Bx w2 (w.heap.size + 1) 32 #[.bool false, .slice ax nx cx, .slice Ax Nx Cx] := by rw [hW]; exact (Bx.set (Bx.set (Bx.set (B0.drew) 0 _ rfl) 1 _ rfl) 2 _ rfl)
  replace hs := B4
  clear B4
  replace B1 := B3
  clear B3
  replace B0 := B2
  clear B2
  replace hx := hx.keep hk
  clear hW hk Bg lx lz
  exact ret_P rfl rfl rfl B0 (hx.neg (by rw [← Br.out]; rfl)) hs
theorem p_Mul_calls (vx vy : Value) (x y : Rat) (K : Nat) (w : World) (hx : PV w vx x) (hy : PV w vy y) (hK : K ≤ 268435456) (sx : SzP K x) (sy : SzP K y) : Calls Tryz.prog 55 #[vx, vy] w (RetP w (x * y)) := by
 obtain ⟨gx, ax, nx, cx, Ax, Nx, Cx, rfl⟩ := hx.shape
 have Bi := hx.sign
 have Br := Lib.hid Bi
 have Bc := hx.parts.2.1
 have Bd := hx.parts.2.2
 obtain ⟨gy, ay, ny, cy, Ay, Ny, Cy, rfl⟩ := hy.shape
 have Bm := hy.sign
 have EGy := Lib.hid Bm
 have Bf := hy.parts.2.1
 have Be := hy.parts.2.2
 have C2 := sx.1
 have C3 := sx.2
 have C4 := sy.1
 have C5 := sy.2
 have C1 := x.den_pos
 have C6 := y.den_pos
 have hd0 : 0 < x.den * y.den := Nat.mul_pos C1 C6
 have zA : x.num.natAbs * y.num.natAbs < 18446744073709551616 ^ (K + K) := pow_mul_ltP C2 C4
 have zD : x.den * y.den < 18446744073709551616 ^ (K + K) := pow_mul_ltP C3 C5
 have Bn : K ≤ 1099511627776 := by omega
 have hK3 : K + K ≤ 1099511627774 := by omega
 have e1 := mul_mk x y
 rw [← Bi, ← Bm] at e1
 generalize hN1 : x.num.natAbs * y.num.natAbs = N1 at *
 generalize hN3 : x.den * y.den = N3 at *
 generalize x * y = xy at *
 have E1 := Lib.hid e1
 have HN1 := Lib.hid hN1
 have HN3 := Lib.hid hN3
 clear e1 hN1 hN3
 clear Bi
 clear Bm
 have hs := Below.refl w.heap.size w
 go_enter Tryz.func55, Tryz.ntmps55
 go_wp2_with fail
 clear hx hy
 refine Code.abs ?_
 intro w1 hW
 have Bg := hs.size
 have B4 : Below w.heap.size w w1 := by rw [hW]; exact (Below.alloc (Below.alloc (Below.alloc hs (by first | exact hs.size | (have := hs.size; simp; done) | (have := hs.size; simp; omega)) _) (by first | exact hs.size | (have := hs.size; simp; done) | (have := hs.size; simp; omega)) _) (by first | exact hs.size | (have := hs.size; simp; done) | (have := hs.size; simp; omega)) _)
 have hk : KeepD w w1 := by rw [hW]; exact ((((KeepD.refl _).alloc _).alloc _).alloc _)
 have B3 : Bx w1 (w.heap.size) 32 #[.bool gx, .slice ax nx cx, .slice Ax Nx Cx] := by rw [hW]; exact (((Bx.new' _ _ _ _ (by first | rfl | (simp; done))).alloc _).alloc _)
 have Bh : Bx w1 (w.heap.size + 1) 32 #[.bool gy, .slice ay ny cy, .slice Ay Ny Cy] := by rw [hW]; exact ((Bx.new' _ _ _ _ (by first | rfl | (simp; done))).alloc _)
 have B2 : Bx w1 (w.heap.size + 1 + 1) 32 #[.bool false, .slice none 0 0, .slice none 0 0] := by rw [hW]; exact (Bx.new' _ _ _ _ (by first | rfl | (simp; done)))
 replace hs := B4
 clear B4
 have B1 := B3
 clear B3
 have B8 := Bh
 clear Bh
 have B0 := B2
 clear B2
 replace Bc := Bc.keep hk
 replace Bd := Bd.keep hk
 replace Bf := Bf.keep hk
 replace Be := Be.keep hk
 clear hW hk Bg
 have Bl := B0.lt
 have hb := bDrew w1
 replace hs := bStep hs hb
 replace B1 := B1.mono hb
 replace B8 := B8.mono hb
 replace B0 := B0.mono hb
 replace Bc := Bc.mono hb
 replace Bd := Bd.mono hb
 replace Bf := Bf.mono hb
 replace Be := Be.mono hb
 clear hb
 have B5 := B1.a0
 have B6 := B1.a1
 have B7 := B1.a2
 have B9 := B8.a0
 have Ba := B8.a1
 have Bb := B8.a2
 go_region_held3 (fun w' => w'.cell? ⟨w.heap.size, 0, none⟩ = some (.bool gx) ∧ w'.cell? ⟨w.heap.size, 1, none⟩ = some (.slice ax nx cx) ∧ w'.cell? ⟨w.heap.size, 2, none⟩ = some (.slice Ax Nx Cx) ∧ w'.cell? ⟨w.heap.size + 1, 0, none⟩ = some (.bool gy) ∧ w'.cell? ⟨w.heap.size + 1, 1, none⟩ = some (.slice ay ny cy) ∧ w'.cell? ⟨w.heap.size + 1, 2, none⟩ = some (.slice Ay Ny Cy))
  (first | exact ⟨B5, B6, B7, B9, Ba, Bb⟩ | exact ⟨cellO (cellO (cellO (B5) (by first | omega | (have := hs.size; simp; done) | (have := hs.size; simp; omega))) (by first | omega | (have := hs.size; simp; done) | (have := hs.size; simp; omega))) (by first | omega | (have := hs.size; simp; done) | (have := hs.size; simp; omega)), cellO (cellO (cellO (B6) (by first | omega | (have := hs.size; simp; done) | (have := hs.size; simp; omega))) (by first | omega | (have := hs.size; simp; done) | (have := hs.size; simp; omega))) (by first | omega | (have := hs.size; simp; done) | (have := hs.size; simp; omega)), cellO (cellO (cellO (B7) (by first | omega | (have := hs.size; simp; done) | (have := hs.size; simp; omega))) (by first | omega | (have := hs.size; simp; done) | (have := hs.size; simp; omega))) (by first | omega | (have := hs.size; simp; done) | (have := hs.size; simp; omega)), cellO (cellO (cellO (B9) (by first | omega | (have := hs.size; simp; done) | (have := hs.size; simp; omega))) (by first | omega | (have := hs.size; simp; done) | (have := hs.size; simp; omega))) (by first | omega | (have := hs.size; simp; done) | (have := hs.size; simp; omega)), cellO (cellO (cellO (Ba) (by first | omega | (have := hs.size; simp; done) | (have := hs.size; simp; omega))) (by first | omega | (have := hs.size; simp; done) | (have := hs.size; simp; omega))) (by first | omega | (have := hs.size; simp; done) | (have := hs.size; simp; omega)), cellO (cellO (cellO (Bb) (by first | omega | (have := hs.size; simp; done) | (have := hs.size; simp; omega))) (by first | omega | (have := hs.size; simp; done) | (have := hs.size; simp; omega))) (by first | omega | (have := hs.size; simp; done) | (have := hs.size; simp; omega))⟩ | go_keep)
  (first
   | (go_at_call 80; (with_reducible refine (ln_times Bc Bf C2 C4 Bn Bn).mono ?_); rintro e w2 ⟨_, rfl, hA, hb⟩; obtain ⟨ahA, nhA, chA, rfl⟩ := hA.shape; replace hs := bStep hs hb; replace B1 := B1.mono hb; replace B8 := B8.mono hb; replace B0 := B0.mono hb; replace Bc := Bc.mono hb; replace Bd := Bd.mono hb; replace Bf := Bf.mono hb; replace Be := Be.mono hb; replace B5 := cellK B5 hb; replace B6 := cellK B6 hb; replace B7 := cellK B7 hb; replace B9 := cellK B9 hb; replace Ba := cellK Ba hb; replace Bb := cellK Bb hb; clear hb; rw [HN1.out] at hA)
   | (go_at_call 81; (with_reducible refine (p_under_calls _ _ _ C1 Bd).mono ?_); rintro e w3 ⟨_, rfl, Bj, hb⟩; obtain ⟨ahu1, nhu1, chu1, rfl⟩ := Bj.shape; replace hs := bStep hs hb; replace B1 := B1.mono hb; replace B8 := B8.mono hb; replace B0 := B0.mono hb; replace Bc := Bc.mono hb; replace Bd := Bd.mono hb; replace Bf := Bf.mono hb; replace Be := Be.mono hb; replace hA := hA.mono hb; replace B5 := cellK B5 hb; replace B6 := cellK B6 hb; replace B7 := cellK B7 hb; replace B9 := cellK B9 hb; replace Ba := cellK Ba hb; replace Bb := cellK Bb hb; clear hb)
   | (go_at_call 81; (with_reducible refine (p_under_calls _ _ _ C6 Be).mono ?_); rintro e w4 ⟨_, rfl, Bk, hb⟩; obtain ⟨ahu2, nhu2, chu2, rfl⟩ := Bk.shape; replace hs := bStep hs hb; replace B1 := B1.mono hb; replace B8 := B8.mono hb; replace B0 := B0.mono hb; replace Bc := Bc.mono hb; replace Bd := Bd.mono hb; replace Bf := Bf.mono hb; replace Be := Be.mono hb; replace hA := hA.mono hb; replace Bj := Bj.mono hb; replace B5 := cellK B5 hb; replace B6 := cellK B6 hb; replace B7 := cellK B7 hb; replace B9 := cellK B9 hb; replace Ba := cellK Ba hb; replace Bb := cellK Bb hb; clear hb)
   | (go_at_call 80; (with_reducible refine (ln_times Bj Bk C3 C5 Bn Bn).mono ?_); rintro e w5 ⟨_, rfl, hD, hb⟩; obtain ⟨ahD, nhD, chD, rfl⟩ := hD.shape; replace hs := bStep hs hb; replace B1 := B1.mono hb; replace B8 := B8.mono hb; replace B0 := B0.mono hb; replace Bc := Bc.mono hb; replace Bd := Bd.mono hb; replace Bf := Bf.mono hb; replace Be := Be.mono hb; replace hA := hA.mono hb; replace Bj := Bj.mono hb; replace Bk := Bk.mono hb; replace B5 := cellK B5 hb; replace B6 := cellK B6 hb; replace B7 := cellK B7 hb; replace B9 := cellK B9 hb; replace Ba := cellK Ba hb; replace Bb := cellK Bb hb; clear hb; rw [HN3.out] at hD)
   | (go_at_call 76; (with_reducible refine (p_reduced_calls _ _ _ _ _ _ _ hA hD hd0 hK3 zA zD).mono ?_); rintro e w6 ⟨_, rfl, hQ, hb⟩; obtain ⟨shQ, Bw, Bz, By, Bt, Bv, Bu, rfl⟩ := hQ.shape; replace hs := bStep hs hb; replace B1 := B1.mono hb; replace B8 := B8.mono hb; replace B0 := B0.mono hb; replace Bc := Bc.mono hb; replace Bd := Bd.mono hb; replace Bf := Bf.mono hb; replace Be := Be.mono hb; replace hA := hA.mono hb; replace Bj := Bj.mono hb; replace Bk := Bk.mono hb; replace hD := hD.mono hb; replace B5 := cellK B5 hb; replace B6 := cellK B6 hb; replace B7 := cellK B7 hb; replace B9 := cellK B9 hb; replace Ba := cellK Ba hb; replace Bb := cellK Bb hb; clear hb; have Bo : w6.cell? ⟨w.heap.size + 1 + 1, 0, none⟩ = some (.bool false) := B0.at 0 rfl; have Bp : w6.cell? ⟨w.heap.size + 1 + 1, 1, none⟩ = some (.slice none 0 0) := B0.at 1 rfl; have Bq : w6.cell? ⟨w.heap.size + 1 + 1, 2, none⟩ = some (.slice none 0 0) := B0.at 2 rfl; have fz := B0.free))
 clear B5 B6 B7 B9 Ba Bb
 go_wp2
 refine bodyPost.abs ?_
 intro w7 hW
 have Bg := hs.size
 have lx := B1.lt
 have ly := B8.lt
 have lz := B0.lt
 have B4 : Below w.heap.size w w7 := by rw [hW]; exact (Below.setCell (Below.setCell (Below.setCell hs (by first | exact Nat.le_refl _ | omega | (have := hs.size; simp; done) | (have := hs.size; simp; omega)) _) (by first | exact Nat.le_refl _ | omega | (have := hs.size; simp; done) | (have := hs.size; simp; omega)) _) (by first | exact Nat.le_refl _ | omega | (have := hs.size; simp; done) | (have := hs.size; simp; omega)) _)
 have hk : KeepD w6 w7 := by rw [hW]; exact (KeepD.set (KeepD.set (KeepD.set (KeepD.refl _) B0.ty (by decide) _ _) (TyB.store B0.ty _ _) (by decide) _ _) (TyB.store (TyB.store B0.ty _ _) _ _) (by decide) _ _)
 have B3 : Bx w7 (w.heap.size) 32 #[.bool gx, .slice ax nx cx, .slice Ax Nx Cx] := by rw [hW]; exact (Bx.far (Bx.far (Bx.far B1 (by first | omega | (simp; done) | (simp; omega)) _) (by first | omega | (simp; done) | (simp; omega)) _) (by first | omega | (simp; done) | (simp; omega)) _)
 have Bh : Bx w7 (w.heap.size + 1) 32 #[.bool gy, .slice ay ny cy, .slice Ay Ny Cy] := by rw [hW]; exact (Bx.far (Bx.far (Bx.far B8 (by first | omega | (simp; done) | (simp; omega)) _) (by first | omega | (simp; done) | (simp; omega)) _) (by first | omega | (simp; done) | (simp; omega)) _)
 have B2 : Bx w7 (w.heap.size + 1 + 1) 32 #[.bool shQ, .slice Bw Bz By, .slice Bt Bv Bu] := by rw [hW]; exact (Bx.set (Bx.set (Bx.set B0 0 _ rfl) 1 _ rfl) 2 _ rfl)
 replace hs := B4
 clear B4
 replace B1 := B3
 clear B3
 replace B8 := Bh
 clear Bh
 replace B0 := B2
 clear B2
 replace Bc := Bc.keep hk
 replace Bd := Bd.keep hk
 replace Bf := Bf.keep hk
 replace Be := Be.keep hk
 replace hA := hA.keep hk
 replace Bj := Bj.keep hk
 replace Bk := Bk.keep hk
 replace hD := hD.keep hk
 replace hQ := hQ.keep hk
 clear hW hk Bg lx ly lz
 exact ret_P rfl rfl rfl B0 (hQ.of_eq (E1.out.trans (by cases gx <;> cases gy <;> rfl)).symm) hs
theorem p_by_calls (vx vy : Value) (x y : Rat) (K : Nat) (w : World) (hx : PV w vx x) (hy : PV w vy y) (hK : K ≤ 268435456) (sx : SzP K x) (sy : SzP K y) (hy0 : y ≠ 0) : Calls Tryz.prog 143 #[vx, vy] w (RetP w (x / y)) := by
 obtain ⟨gx, ax, nx, cx, Ax, Nx, Cx, rfl⟩ := hx.shape
 have Bi := hx.sign
 have Br := Lib.hid Bi
 have Bc := hx.parts.2.1
 have Bd := hx.parts.2.2
 obtain ⟨gy, ay, ny, cy, Ay, Ny, Cy, rfl⟩ := hy.shape
 have Bm := hy.sign
 have EGy := Lib.hid Bm
 have Bf := hy.parts.2.1
 have Be := hy.parts.2.2
 have C2 := sx.1
 have C3 := sx.2
 have C4 := sy.1
 have C5 := sy.2
 have C1 := x.den_pos
 have C6 := y.den_pos
 have hn0 : 0 < y.num.natAbs := Nat.pos_of_ne_zero (fun h => hy0 ((natAbs_zero_iff y).1 h))
 have hd0 : 0 < x.den * y.num.natAbs := Nat.mul_pos C1 hn0
 have zA : x.num.natAbs * y.den < 18446744073709551616 ^ (K + K) := pow_mul_ltP C2 C5
 have zD : x.den * y.num.natAbs < 18446744073709551616 ^ (K + K) := pow_mul_ltP C3 C4
 have Bn : K ≤ 1099511627776 := by omega
 have hK3 : K + K ≤ 1099511627774 := by omega
 have e1 := div_mk x y hy0
 rw [← Bi, ← Bm] at e1
 generalize hN1 : x.num.natAbs * y.den = N1 at *
 generalize hN3 : x.den * y.num.natAbs = N3 at *
 generalize x / y = xy at *
 have E1 := Lib.hid e1
 have HN1 := Lib.hid hN1
 have HN3 := Lib.hid hN3
 clear e1 hN1 hN3 hy0
 clear Bi
 clear Bm
 have hs := Below.refl w.heap.size w
 go_enter Tryz.func143, Tryz.ntmps143
 go_wp2_with fail
 clear hx hy
 refine Code.abs ?_
 intro w1 hW
 have Bg := hs.size
 have B4 : Below w.heap.size w w1 := by rw [hW]; exact (Below.alloc (Below.alloc (Below.alloc hs (by first | exact hs.size | (have := hs.size; simp; done) | (have := hs.size; simp; omega)) _) (by first | exact hs.size | (have := hs.size; simp; done) | (have := hs.size; simp; omega)) _) (by first | exact hs.size | (have := hs.size; simp; done) | (have := hs.size; simp; omega)) _)
 have hk : KeepD w w1 := by rw [hW]; exact ((((KeepD.refl _).alloc _).alloc _).alloc _)
 have B3 : Bx w1 (w.heap.size) 32 #[.bool gx, .slice ax nx cx, .slice Ax Nx Cx] := by rw [hW]; exact (((Bx.new' _ _ _ _ (by first | rfl | (simp; done))).alloc _).alloc _)
 have Bh : Bx w1 (w.heap.size + 1) 32 #[.bool gy, .slice ay ny cy, .slice Ay Ny Cy] := by rw [hW]; exact ((Bx.new' _ _ _ _ (by first | rfl | (simp; done))).alloc _)
 have B2 : Bx w1 (w.heap.size + 1 + 1) 32 #[.bool false, .slice none 0 0, .slice none 0 0] := by rw [hW]; exact (Bx.new' _ _ _ _ (by first | rfl | (simp; done)))
 replace hs := B4
 clear B4
 have B1 := B3
 clear B3
 have B8 := Bh
 clear Bh
 have B0 := B2
 clear B2
 replace Bc := Bc.keep hk
 replace Bd := Bd.keep hk
 replace Bf := Bf.keep hk
 replace Be := Be.keep hk
 clear hW hk Bg
 have Bl := B0.lt
 have hb := bDrew w1
 replace hs := bStep hs hb
 replace B1 := B1.mono hb
 replace B8 := B8.mono hb
 replace B0 := B0.mono hb
 replace Bc := Bc.mono hb
 replace Bd := Bd.mono hb
 replace Bf := Bf.mono hb
 replace Be := Be.mono hb
 clear hb
 have B5 := B1.a0
 have B6 := B1.a1
 have B7 := B1.a2
 have B9 := B8.a0
 have Ba := B8.a1
 have Bb := B8.a2
 go_region_held3 (fun w' => w'.cell? ⟨w.heap.size, 0, none⟩ = some (.bool gx) ∧ w'.cell? ⟨w.heap.size, 1, none⟩ = some (.slice ax nx cx) ∧ w'.cell? ⟨w.heap.size, 2, none⟩ = some (.slice Ax Nx Cx) ∧ w'.cell? ⟨w.heap.size + 1, 0, none⟩ = some (.bool gy) ∧ w'.cell? ⟨w.heap.size + 1, 1, none⟩ = some (.slice ay ny cy) ∧ w'.cell? ⟨w.heap.size + 1, 2, none⟩ = some (.slice Ay Ny Cy))
  (first | exact ⟨B5, B6, B7, B9, Ba, Bb⟩ | exact ⟨cellO (cellO (cellO (B5) (by first | omega | (have := hs.size; simp; done) | (have := hs.size; simp; omega))) (by first | omega | (have := hs.size; simp; done) | (have := hs.size; simp; omega))) (by first | omega | (have := hs.size; simp; done) | (have := hs.size; simp; omega)), cellO (cellO (cellO (B6) (by first | omega | (have := hs.size; simp; done) | (have := hs.size; simp; omega))) (by first | omega | (have := hs.size; simp; done) | (have := hs.size; simp; omega))) (by first | omega | (have := hs.size; simp; done) | (have := hs.size; simp; omega)), cellO (cellO (cellO (B7) (by first | omega | (have := hs.size; simp; done) | (have := hs.size; simp; omega))) (by first | omega | (have := hs.size; simp; done) | (have := hs.size; simp; omega))) (by first | omega | (have := hs.size; simp; done) | (have := hs.size; simp; omega)), cellO (cellO (cellO (B9) (by first | omega | (have := hs.size; simp; done) | (have := hs.size; simp; omega))) (by first | omega | (have := hs.size; simp; done) | (have := hs.size; simp; omega))) (by first | omega | (have := hs.size; simp; done) | (have := hs.size; simp; omega)), cellO (cellO (cellO (Ba) (by first | omega | (have := hs.size; simp; done) | (have := hs.size; simp; omega))) (by first | omega | (have := hs.size; simp; done) | (have := hs.size; simp; omega))) (by first | omega | (have := hs.size; simp; done) | (have := hs.size; simp; omega)), cellO (cellO (cellO (Bb) (by first | omega | (have := hs.size; simp; done) | (have := hs.size; simp; omega))) (by first | omega | (have := hs.size; simp; done) | (have := hs.size; simp; omega))) (by first | omega | (have := hs.size; simp; done) | (have := hs.size; simp; omega))⟩ | go_keep)
  (first
   | (go_at_call 81; (with_reducible refine (p_under_calls _ _ _ C6 Be).mono ?_); rintro e w2 ⟨_, rfl, Bj, hb⟩; obtain ⟨ahu1, nhu1, chu1, rfl⟩ := Bj.shape; replace hs := bStep hs hb; replace B1 := B1.mono hb; replace B8 := B8.mono hb; replace B0 := B0.mono hb; replace Bc := Bc.mono hb; replace Bd := Bd.mono hb; replace Bf := Bf.mono hb; replace Be := Be.mono hb; replace B5 := cellK B5 hb; replace B6 := cellK B6 hb; replace B7 := cellK B7 hb; replace B9 := cellK B9 hb; replace Ba := cellK Ba hb; replace Bb := cellK Bb hb; clear hb)
   | (go_at_call 80; (with_reducible refine (ln_times Bc Bj C2 C5 Bn Bn).mono ?_); rintro e w3 ⟨_, rfl, hA, hb⟩; obtain ⟨ahA, nhA, chA, rfl⟩ := hA.shape; replace hs := bStep hs hb; replace B1 := B1.mono hb; replace B8 := B8.mono hb; replace B0 := B0.mono hb; replace Bc := Bc.mono hb; replace Bd := Bd.mono hb; replace Bf := Bf.mono hb; replace Be := Be.mono hb; replace Bj := Bj.mono hb; replace B5 := cellK B5 hb; replace B6 := cellK B6 hb; replace B7 := cellK B7 hb; replace B9 := cellK B9 hb; replace Ba := cellK Ba hb; replace Bb := cellK Bb hb; clear hb; rw [HN1.out] at hA)
   | (go_at_call 81; (with_reducible refine (p_under_calls _ _ _ C1 Bd).mono ?_); rintro e w4 ⟨_, rfl, Bk, hb⟩; obtain ⟨ahu2, nhu2, chu2, rfl⟩ := Bk.shape; replace hs := bStep hs hb; replace B1 := B1.mono hb; replace B8 := B8.mono hb; replace B0 := B0.mono hb; replace Bc := Bc.mono hb; replace Bd := Bd.mono hb; replace Bf := Bf.mono hb; replace Be := Be.mono hb; replace Bj := Bj.mono hb; replace hA := hA.mono hb; replace B5 := cellK B5 hb; replace B6 := cellK B6 hb; replace B7 := cellK B7 hb; replace B9 := cellK B9 hb; replace Ba := cellK Ba hb; replace Bb := cellK Bb hb; clear hb)
   | (go_at_call 80; (with_reducible refine (ln_times Bk Bf C3 C4 Bn Bn).mono ?_); rintro e w5 ⟨_, rfl, hD, hb⟩; obtain ⟨ahD, nhD, chD, rfl⟩ := hD.shape; replace hs := bStep hs hb; replace B1 := B1.mono hb; replace B8 := B8.mono hb; replace B0 := B0.mono hb; replace Bc := Bc.mono hb; replace Bd := Bd.mono hb; replace Bf := Bf.mono hb; replace Be := Be.mono hb; replace Bj := Bj.mono hb; replace hA := hA.mono hb; replace Bk := Bk.mono hb; replace B5 := cellK B5 hb; replace B6 := cellK B6 hb; replace B7 := cellK B7 hb; replace B9 := cellK B9 hb; replace Ba := cellK Ba hb; replace Bb := cellK Bb hb; clear hb; rw [HN3.out] at hD)
   | (go_at_call 76; (with_reducible refine (p_reduced_calls _ _ _ _ _ _ _ hA hD hd0 hK3 zA zD).mono ?_); rintro e w6 ⟨_, rfl, hQ, hb⟩; obtain ⟨shQ, Bw, Bz, By, Bt, Bv, Bu, rfl⟩ := hQ.shape; replace hs := bStep hs hb; replace B1 := B1.mono hb; replace B8 := B8.mono hb; replace B0 := B0.mono hb; replace Bc := Bc.mono hb; replace Bd := Bd.mono hb; replace Bf := Bf.mono hb; replace Be := Be.mono hb; replace Bj := Bj.mono hb; replace hA := hA.mono hb; replace Bk := Bk.mono hb; replace hD := hD.mono hb; replace B5 := cellK B5 hb; replace B6 := cellK B6 hb; replace B7 := cellK B7 hb; replace B9 := cellK B9 hb; replace Ba := cellK Ba hb; replace Bb := cellK Bb hb; clear hb; have Bo : w6.cell? ⟨w.heap.size + 1 + 1, 0, none⟩ = some (.bool false) := B0.at 0 rfl; have Bp : w6.cell? ⟨w.heap.size + 1 + 1, 1, none⟩ = some (.slice none 0 0) := B0.at 1 rfl; have Bq : w6.cell? ⟨w.heap.size + 1 + 1, 2, none⟩ = some (.slice none 0 0) := B0.at 2 rfl; have fz := B0.free))
 clear B5 B6 B7 B9 Ba Bb
 go_wp2
 refine bodyPost.abs ?_
 intro w7 hW
 have Bg := hs.size
 have lx := B1.lt
 have ly := B8.lt
 have lz := B0.lt
 have B4 : Below w.heap.size w w7 := by rw [hW]; exact (Below.setCell (Below.setCell (Below.setCell hs (by first | exact Nat.le_refl _ | omega | (have := hs.size; simp; done) | (have := hs.size; simp; omega)) _) (by first | exact Nat.le_refl _ | omega | (have := hs.size; simp; done) | (have := hs.size; simp; omega)) _) (by first | exact Nat.le_refl _ | omega | (have := hs.size; simp; done) | (have := hs.size; simp; omega)) _)
 have hk : KeepD w6 w7 := by rw [hW]; exact (KeepD.set (KeepD.set (KeepD.set (KeepD.refl _) B0.ty (by decide) _ _) (TyB.store B0.ty _ _) (by decide) _ _) (TyB.store (TyB.store B0.ty _ _) _ _) (by decide) _ _)
 have B3 : Bx w7 (w.heap.size) 32 #[.bool gx, .slice ax nx cx, .slice Ax Nx Cx] := by rw [hW]; exact (Bx.far (Bx.far (Bx.far B1 (by first | omega | (simp; done) | (simp; omega)) _) (by first | omega | (simp; done) | (simp; omega)) _) (by first | omega | (simp; done) | (simp; omega)) _)
 have Bh : Bx w7 (w.heap.size + 1) 32 #[.bool gy, .slice ay ny cy, .slice Ay Ny Cy] := by rw [hW]; exact (Bx.far (Bx.far (Bx.far B8 (by first | omega | (simp; done) | (simp; omega)) _) (by first | omega | (simp; done) | (simp; omega)) _) (by first | omega | (simp; done) | (simp; omega)) _)
 have B2 : Bx w7 (w.heap.size + 1 + 1) 32 #[.bool shQ, .slice Bw Bz By, .slice Bt Bv Bu] := by rw [hW]; exact (Bx.set (Bx.set (Bx.set B0 0 _ rfl) 1 _ rfl) 2 _ rfl)
 replace hs := B4
 clear B4
 replace B1 := B3
 clear B3
 replace B8 := Bh
 clear Bh
 replace B0 := B2
 clear B2
 replace Bc := Bc.keep hk
 replace Bd := Bd.keep hk
 replace Bf := Bf.keep hk
 replace Be := Be.keep hk
 replace Bj := Bj.keep hk
 replace hA := hA.keep hk
 replace Bk := Bk.keep hk
 replace hD := hD.keep hk
 replace hQ := hQ.keep hk
 clear hW hk Bg lx ly lz
 exact ret_P rfl rfl rfl B0 (hQ.of_eq (E1.out.trans (by cases gx <;> cases gy <;> rfl)).symm) hs
theorem p_Div_calls (vx vy : Value) (x y : Rat) (K : Nat) (w : World) (hx : PV w vx x) (hy : PV w vy y) (hK : K ≤ 268435456) (sx : SzP K x) (sy : SzP K y) (hy0 : y ≠ 0) : Calls Tryz.prog 111 #[vx, vy] w (RetPE w (x / y) 0) := by
 obtain ⟨gx, ax, nx, cx, Ax, Nx, Cx, rfl⟩ := hx.shape
 have Bi := hx.sign
 have Br := Lib.hid Bi
 obtain ⟨gy, ay, ny, cy, Ay, Ny, Cy, rfl⟩ := hy.shape
 have Bm := hy.sign
 have EGy := Lib.hid Bm
 have Bs : decide (y = 0) = false := decide_eq_false hy0
 have HZ0 := Lib.hid Bs
 clear Bs
 clear Bi Bm
 have hs := Below.refl w.heap.size w
 go_enter Tryz.func111, Tryz.ntmps111
 go_wp2_with fail
 refine Calls.abs ?_
 intro w1 hW
 have Bg := hs.size
 have B4 : Below w.heap.size w w1 := by rw [hW]; exact (Below.alloc (Below.alloc (Below.alloc hs (by first | exact hs.size | (have := hs.size; simp; done) | (have := hs.size; simp; omega)) _) (by first | exact hs.size | (have := hs.size; simp; done) | (have := hs.size; simp; omega)) _) (by first | exact hs.size | (have := hs.size; simp; done) | (have := hs.size; simp; omega)) _)
 have hk : KeepD w w1 := by rw [hW]; exact ((((KeepD.refl _).alloc _).alloc _).alloc _)
 have B3 : Bx w1 (w.heap.size) 32 #[.bool gx, .slice ax nx cx, .slice Ax Nx Cx] := by rw [hW]; exact (((Bx.new' _ _ _ _ (by first | rfl | (simp; done))).alloc _).alloc _)
 have Bh : Bx w1 (w.heap.size + 1) 32 #[.bool gy, .slice ay ny cy, .slice Ay Ny Cy] := by rw [hW]; exact ((Bx.new' _ _ _ _ (by first | rfl | (simp; done))).alloc _)
 have B2 : Bx w1 (w.heap.size + 1 + 1) 32 #[.bool false, .slice none 0 0, .slice none 0 0] := by rw [hW]; exact (Bx.new' _ _ _ _ (by first | rfl | (simp; done)))
 replace hs := B4
 clear B4
 have B1 := B3
 clear B3
 have B8 := Bh
 clear Bh
 have B0 := B2
 clear B2
 replace hx := hx.keep hk
 replace hy := hy.keep hk
 clear hW hk Bg
 have Bl := B0.lt
 refine (p_Zero_calls _ _ _ hy).mono ?_
 rintro e w2 ⟨rfl, hb⟩
 replace hs := bStep hs hb
 replace B1 := B1.mono hb
 replace B8 := B8.mono hb
 replace B0 := B0.mono hb
 replace hx := hx.mono hb
 replace hy := hy.mono hb
 clear hb
 rw [HZ0.out]
 have B5 := B1.a0
 have B6 := B1.a1
 have B7 := B1.a2
 have B9 := B8.a0
 have Ba := B8.a1
 have Bb := B8.a2
 go_wp2_with fail
 clear B5 B6 B7 B9 Ba Bb
 refine (p_by_calls _ _ x y K _ hx hy hK sx sy hy0).mono ?_
 rintro e w3 ⟨_, rfl, hQ, hb⟩
 obtain ⟨shQ, Bw, Bz, By, Bt, Bv, Bu, rfl⟩ := hQ.shape
 replace hs := bStep hs hb
 replace B1 := B1.mono hb
 replace B8 := B8.mono hb
 replace B0 := B0.mono hb
 replace hx := hx.mono hb
 replace hy := hy.mono hb
 clear hb
 have Bo := B0.a0
 have Bp := B0.a1
 have Bq := B0.a2
 have fz := B0.free
 go_wp2
 refine bodyPost.abs ?_
 intro w4 hW
 have Bg := hs.size
 have lx := B1.lt
 have ly := B8.lt
 have lz := B0.lt
 have B4 : Below w.heap.size w w4 := by rw [hW]; exact (Below.setCell (Below.setCell (Below.setCell hs (by first | exact Nat.le_refl _ | omega | (have := hs.size; simp; done) | (have := hs.size; simp; omega)) _) (by first | exact Nat.le_refl _ | omega | (have := hs.size; simp; done) | (have := hs.size; simp; omega)) _) (by first | exact Nat.le_refl _ | omega | (have := hs.size; simp; done) | (have := hs.size; simp; omega)) _)
 have hk : KeepD w3 w4 := by rw [hW]; exact (KeepD.set (KeepD.set (KeepD.set (KeepD.refl _) B0.ty (by decide) _ _) (TyB.store B0.ty _ _) (by decide) _ _) (TyB.store (TyB.store B0.ty _ _) _ _) (by decide) _ _)
 have B3 : Bx w4 (w.heap.size) 32 #[.bool gx, .slice ax nx cx, .slice Ax Nx Cx] := by rw [hW]; exact (Bx.far (Bx.far (Bx.far B1 (by first | omega | (simp; done) | (simp; omega)) _) (by first | omega | (simp; done) | (simp; omega)) _) (by first | omega | (simp; done) | (simp; omega)) _)
 have Bh : Bx w4 (w.heap.size + 1) 32 #[.bool gy, .slice ay ny cy, .slice Ay Ny Cy] := by rw [hW]; exact (Bx.far (Bx.far (Bx.far B8 (by first | omega | (simp; done) | (simp; omega)) _) (by first | omega | (simp; done) | (simp; omega)) _) (by first | omega | (simp; done) | (simp; omega)) _)
 have B2 : Bx w4 (w.heap.size + 1 + 1) 32 #[.bool shQ, .slice Bw Bz By, .slice Bt Bv Bu] := by rw [hW]; exact (Bx.set (Bx.set (Bx.set B0 0 _ rfl) 1 _ rfl) 2 _ rfl)
 replace hs := B4
 clear B4
 replace B1 := B3
 clear B3
 replace B8 := Bh
 clear Bh
 replace B0 := B2
 clear B2
 replace hx := hx.keep hk
 replace hy := hy.keep hk
 replace hQ := hQ.keep hk
 clear hW hk Bg lx ly lz
 exact ret_PE rfl rfl rfl rfl B0 hQ hs
end Go.Proofs.YtkfekkhhfpkfaaaGreat
