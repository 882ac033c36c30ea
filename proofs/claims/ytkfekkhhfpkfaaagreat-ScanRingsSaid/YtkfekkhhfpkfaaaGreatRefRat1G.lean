/-
  The contracts of the reference's fractions, first part: under, made, magnitude, Int, New, Of, Zero, Sign, Neg, Abs.
-/
import Derived.Test.YtkfekkhhfpkfaaaGreatPkNatG
import Derived.Test.YtkfekkhhfpkfaaaGreatPkMemG
import Derived.Deep.RegionHeld3
import Derived.Deep.DeepCutAuto
import Derived.Deep.DrawnRows
set_option linter.unusedSimpArgs false
set_option linter.unusedVariables false
set_option maxRecDepth 100000
set_option maxHeartbeats 2000000
namespace Go.Proofs.YtkfekkhhfpkfaaaGreat
open Go.RowKit Dg
def RetN (k : IntKind) (B : Nat) (w : World) (x : Nat) (e : Ending) (w' : World) : Prop := ∃ v, e = .returned v ∧ NatV k B w' v x ∧ Below w.heap.size w w'
def RetQ (w : World) (q : Rat) (e : Ending) (w' : World) : Prop := ∃ v, e = .returned v ∧ RV w' v q ∧ Below w.heap.size w w'
theorem r_under_calls (v : Value) (q : Rat) (w : World) (h : RV w v q) : Calls Tryz.prog 115 #[v] w (RetN .u32 4294967296 w q.den) := by
  obtain ⟨vn, vd, d, rfl, ⟨a1, n1, c1, l1, rfl, hs1, hc1, hv1⟩, ⟨a2, n2, c2, l2, rfl, hs2, hc2, hv2⟩, hd⟩ := h
  have b2 : n2 ≤ 9223372036854775807 := by have := hs2.cap; have := hs2.max; omega
  have HS2 := Lib.hid hs2
  have HC2 := Lib.hid hc2
  have HV2 := Lib.hid hv2
  have HD := Lib.hid hd
  clear hs1 hc1 hv1 hs2 hc2 hv2 hd
  by_cases h0 : n2 = 0
  · subst h0
    have hl : l2 = [] := List.length_eq_zero_iff.1 HS2.out.len
    have hden : q.den = 1 := by
      have hv := HV2.out
      rw [hl] at hv
      rcases HD.out with h | h
      · have := q.den_pos; simp [val] at hv; omega
      · exact h.2
    rw [hden]
    clear hl hden
    go_enter Tryz.func115, Tryz.ntmps115
    go_wp2_with fail
    refine (r_Nat_calls _ _ (by omega) (by omega)).mono ?_
    rintro e w1 ⟨v, rfl, hv, hb, _⟩
    have HV := Lib.hid hv
    have HB := Lib.hid hb
    clear hv hb
    go_wp2
    go_ret
    exact ⟨_, rfl, HV.out, ((Below.refl _ _).alloc (Nat.le_refl _) _).trans (HB.out.mono (by simp))⟩
  · have h0' : ((n2 : Int) == 0) = false := by rw [beq_eq_false_iff_ne]; omega
    have hden : q.den = val 4294967296 l2 := by
      have hpos := HC2.out.pos (by omega) (by rw [HS2.out.len]; omega)
      have hv := HV2.out
      rcases HD.out with h | h
      · rw [hv, h]
      · omega
    rw [hden]
    clear hden
    go_enter Tryz.func115, Tryz.ntmps115
    go_wp2
    go_ret
    have hb : Below w.heap.size w (w.alloc (.cells #[Value.bool (ng q), .slice a1 n1 c1, .slice a2 n2 c2] 38)) := (Below.refl _ _).alloc (Nat.le_refl _) _
    exact ⟨_, rfl, ⟨_, _, _, _, rfl, HS2.out.mono hb, HC2.out, rfl⟩, hb⟩
theorem store3 {w : World} {g : Nat} (hg : NoInt w g) {s : Bool} {v1 v2 : Value} {x y : Nat} (h1 : NatV .u32 4294967296 w v1 x) (h2 : NatV .u32 4294967296 w v2 y) :
    NatV .u32 4294967296 (((w.setCell ⟨g, 0, none⟩ (.bool s)).setCell ⟨g, 1, none⟩ v1).setCell ⟨g, 2, none⟩ v2) v1 x ∧ NatV .u32 4294967296 (((w.setCell ⟨g, 0, none⟩ (.bool s)).setCell ⟨g, 1, none⟩ v1).setCell ⟨g, 2, none⟩ v2) v2 y := by
  obtain ⟨_, _, _, _, e1, _⟩ := id h1
  have g1 := hg.set 0 (.bool s) (fun k x => by simp)
  have g2 := g1.set 1 v1 (fun k x => by rw [e1]; simp)
  exact ⟨((h1.box hg 0 _).box g1 1 _).box g2 2 _, ((h2.box hg 0 _).box g1 1 _).box g2 2 _⟩
theorem below_store3 {B : Nat} {w0 w : World} {g : Nat} (h : Below B w0 w) (hg : B ≤ g) (u1 u2 u3 : Value) : Below B w0 (((w.setCell ⟨g, 0, none⟩ u1).setCell ⟨g, 1, none⟩ u2).setCell ⟨g, 2, none⟩ u3) :=
  ((h.setCell (p := ⟨g, 0, none⟩) hg _).setCell (p := ⟨g, 1, none⟩) hg _).setCell (p := ⟨g, 2, none⟩) hg _
theorem ng_zero : ng 0 = false := by decide
theorem load_R {w : World} {g : Nat} {u0 u1 u2 : Value} (h : Box3 w g u0 u1 u2) : (loadVar 38 ⟨g, 0, none⟩).run Tryz.prog w = .ok (.agg #[u0, u1, u2]) w := by
  obtain ⟨h0, h1, h2⟩ := h.cells
  simp [go_sem, h0, h1, h2]
theorem ret_R {fn : Func} {p : Tmp} {w0 w1 w : World} {g : Nat} {q : Rat} {s : Bool} {v1 v2 u0 u1 u2 : Value} {d : Nat} {a : Act} (hr : fn.results = #[.cell p 38]) (ha : a.tmps.getD p undef = .pointer (some ⟨g, 0, none⟩)) (hdef : a.defers = [])
    (hbox : Box3 w1 g u0 u1 u2) (hni : NoInt w1 g) (hw : w = ((w1.setCell ⟨g, 0, none⟩ (.bool s)).setCell ⟨g, 1, none⟩ v1).setCell ⟨g, 2, none⟩ v2)
    (hs : s = ng q) (h1 : NatV .u32 4294967296 w1 v1 q.num.natAbs) (h2 : NatV .u32 4294967296 w1 v2 d) (hd : d = q.den ∨ d = 0 ∧ q.den = 1) (hb : Below w0.heap.size w0 w1) (hg : w0.heap.size ≤ g) :
    bodyPost Tryz.prog fn (RetQ w0 q) .ret a w := by
  subst hw
  subst hs
  have hst := store3 (s := ng q) hni h1 h2
  refine bodyPost_ret (v := .agg #[.bool (ng q), v1, v2]) ?_ hdef ⟨_, rfl, ⟨v1, v2, d, rfl, hst.1, hst.2, hd⟩, below_store3 hb hg _ _ _⟩
  rw [results_cell1 hr, ha]
  exact load_R (hbox.set _ _ _)
theorem r_made_zero (neg : Bool) (a1 : Option Addr) (c1 : Nat) (vd : Value) (w : World) : Calls Tryz.prog 116 #[.bool neg, .slice a1 0 c1, vd] w (RetQ w 0) := by
  go_enter Tryz.func116, Tryz.ntmps116
  go_wp2_with fail
  have hx0 := Box3.new w (.bool false) (.slice none 0 0) (.slice none 0 0) 38
  have hb0 : Below w.heap.size w ((w.alloc (.cells #[.bool false, .slice none 0 0, .slice none 0 0] 38)).alloc (.cells #[] 62)) := ((Below.refl _ _).alloc (Nat.le_refl _) _).alloc (by simp) _
  refine (r_Nat_calls _ _ (by omega) (by omega)).mono ?_
  rintro e w1 ⟨v, rfl, hv, hb, _⟩
  obtain ⟨a2, n2, c2, l2, rfl, hs2, hc2, hv2⟩ := id hv
  have hx1 := (hx0.alloc _).below hb
  obtain ⟨hc0, hc1, hc2⟩ := hx1.cells
  have hf := hx1.free
  have hlt : w.heap.size + 1 < w1.heap.size := by have := hb.size; simp at this; omega
  have hbel := hb0.trans (hb.mono (by simp; omega))
  have HV := Lib.hid hv
  have HB := Lib.hid hbel
  have HX := Lib.hid hx1
  clear hb0 hv hb hs2 hv2 hbel hx0 hx1
  go_wp2
  have h0 : NatV .u32 4294967296 w1 (.slice (some ⟨w.heap.size + 1, 0, none⟩) 0 0) 0 := ⟨_, _, _, [], rfl, Sl.empty _ _ _ _ (by omega) (fun e => by cases e), Canon.nil _, rfl⟩
  exact ret_R rfl rfl rfl HX.out (HX.out.noInt (by simp) (by simp) (by simp)) rfl ng_zero.symm h0 HV.out (.inl rfl) HB.out (Nat.le_refl _)
theorem NatV.sz {w : World} {v : Value} {x K : Nat} (h : NatV .u32 4294967296 w v x) (hx : x < 4294967296 ^ K) : NatS .u32 4294967296 K w v x := by
  obtain ⟨ao, n, c, l, e, hs, hc, hv⟩ := h
  refine ⟨ao, n, c, l, e, hs, hc, hv, ?_⟩
  have := hc.length_le (by omega) (by rw [hv]; exact hx)
  rwa [hs.len] at this
theorem r_made_pos (neg : Bool) (a1 a2 : Option Addr) (n1 c1 n2 c2 : Nat) (l1 l2 : List Nat) (w : World) (hs1 : Sl .u32 w a1 n1 c1 l1) (hc1 : Canon 4294967296 l1) (hs2 : Sl .u32 w a2 n2 c2 l2) (hc2 : Canon 4294967296 l2)
    (hn0 : 0 < n1) (hd0 : 0 < n2) (hn1 : n1 ≤ 536870912) (hn2 : n2 ≤ 536870912) :
    Calls Tryz.prog 116 #[.bool neg, .slice a1 n1 c1, .slice a2 n2 c2] w (RetQ w (mkQ neg (val 4294967296 l1) (val 4294967296 l2))) := by
  have hv1 : 0 < val 4294967296 l1 := hc1.pos (by omega) (by rw [hs1.len]; exact hn0)
  have hv2 : 0 < val 4294967296 l2 := hc2.pos (by omega) (by rw [hs2.len]; exact hd0)
  generalize hx : val 4294967296 l1 = x at *
  generalize hy : val 4294967296 l2 = y at *
  have hq1 := mkQ_natAbs neg x y (by omega)
  have hq2 := mkQ_den neg x y (by omega)
  have hq3 := mkQ_ng neg x y (by omega) (by omega)
  generalize mkQ neg x y = q at *
  have hg0 := Nat.gcd_pos_of_pos_left y hv1
  have hgx : Nat.gcd x y ≤ x := Nat.le_of_dvd hv1 (Nat.gcd_dvd_left x y)
  have H1 := Lib.hid hs1
  have H2 := Lib.hid hs2
  have HC1 := Lib.hid hc1
  have HC2 := Lib.hid hc2
  have HX := Lib.hid hx
  have HY := Lib.hid hy
  have HQ1 := Lib.hid hq1
  have HQ2 := Lib.hid hq2
  have HQ3 := Lib.hid hq3
  have HGX := Lib.hid hgx
  clear hs1 hs2 hc1 hc2 hx hy hq1 hq2 hq3 hgx
  generalize hG : Nat.gcd x y = G at *
  have HG := Lib.hid hG
  clear hG
  have h0' : ((n1 : Int) == 0) = false := by rw [beq_eq_false_iff_ne]; omega
  have hb0 : Below w.heap.size w (w.alloc (.cells #[.bool false, .slice none 0 0, .slice none 0 0] 38)) := (Below.refl _ _).alloc (Nat.le_refl _) _
  have hx0 := Box3.new w (.bool false) (.slice none 0 0) (.slice none 0 0) 38
  have HB0 := Lib.hid hb0
  have HX0 := Lib.hid hx0
  clear hb0 hx0
  go_enter Tryz.func116, Tryz.ntmps116
  go_wp2_with fail
  refine (r_Divisor_calls _ _ _ _ _ _ _ _ _ (H1.out.mono HB0.out) (H2.out.mono HB0.out) HC1.out HC2.out hn1 hn2).mono ?_
  rintro e w1 ⟨vg, rfl, ⟨a3, n3, c3, l3, rfl, hs3, hc3, hv3⟩, hb1⟩
  rw [HX.out, HY.out, HG.out] at hv3
  have hn3 : n3 ≤ 536870912 := by
    have := hc3.length_le_of (by omega) HC1.out (by rw [hv3, HX.out]; exact HGX.out)
    rw [hs3.len, H1.out.len] at this
    omega
  have hx1 := HX0.out.below hb1
  have hbel1 := HB0.out.trans (hb1.mono (by simp))
  have HS3 := Lib.hid hs3
  have HC3 := Lib.hid hc3
  have HV3 := Lib.hid hv3
  have HX1 := Lib.hid hx1
  have HB1 := Lib.hid hbel1
  clear hs3 hc3 hv3 hx1 hbel1 hb1
  go_wp2_with fail
  refine (r_Nat_calls _ _ (by omega) (by omega)).mono ?_
  rintro e w2 ⟨v4, rfl, ⟨a4, n4, c4, l4, rfl, hs4, hc4, hv4⟩, hb2, _⟩
  rw [show Int.toNat 1 = 1 from rfl] at hv4
  have hx2 := HX1.out.below hb2
  have hbel2 := HB1.out.trans (hb2.mono HB1.out.size)
  have hs3' := HS3.out.mono hb2
  have HS4 := Lib.hid hs4
  have HC4 := Lib.hid hc4
  have HV4 := Lib.hid hv4
  have HX2 := Lib.hid hx2
  have HB2 := Lib.hid hbel2
  have HS3' := Lib.hid hs3'
  clear hs4 hc4 hv4 hx2 hbel2 hb2 hs3'
  go_wp2_with fail
  refine (r_Order_calls _ _ _ _ _ _ _ _ _ HS3'.out HS4.out HC3.out HC4.out).mono ?_
  rintro e w3 ⟨q3, rfl, rfl⟩
  rw [HV3.out, HV4.out]
  have hbel3 : Below w.heap.size w (w2.drewN q3) := belowN HB2.out q3
  have hx3 : Box3 (w2.drewN q3) w.heap.size (.bool false) (.slice none 0 0) (.slice none 0 0) := HX2.out
  have HB3 := Lib.hid hbel3
  have HX3 := Lib.hid hx3
  have hf3 := hx3.free
  obtain ⟨k0, k1, k2⟩ := hx3.cells
  by_cases hG1 : G = 1
  · subst hG1
    have hord : ordN 1 1 = 0 := by decide
    have HORD := Lib.hid hord
    clear hord
    rw [HORD.out]
    clear hbel3 hx3
    go_wp2
    refine ret_R rfl rfl rfl HX3.out (HX3.out.noInt (by simp) (by simp) (by simp)) rfl HQ3.out.symm (d := y) ?_ ?_ (.inl ?_) HB3.out (Nat.le_refl _)
    · rw [HQ1.out, Nat.div_one]; exact ⟨_, _, _, _, rfl, H1.out.mono HB3.out, HC1.out, HX.out⟩
    · exact ⟨_, _, _, _, rfl, H2.out.mono HB3.out, HC2.out, HY.out⟩
    · rw [HQ2.out, Nat.div_one]
  · have hord : ordN G 1 = 1 := by unfold ordN; rw [if_neg (by omega), if_pos (by omega)]
    have HORD := Lib.hid hord
    clear hord
    rw [HORD.out]
    clear hbel3 hx3 hf3 k0 k1 k2
    go_wp2_with fail
    refine (r_Quotient_calls _ _ _ _ _ _ _ _ _ (H1.out.mono HB3.out) (HS3'.out.mono (belowN (Below.refl _ _) q3)) HC1.out HC3.out hn1 hn3 (by rw [HV3.out]; exact hg0)).mono ?_
    rintro e w4 ⟨v5, v6, rfl, hv5, _, hb4⟩
    rw [HX.out, HV3.out] at hv5
    obtain ⟨a5, n5, c5, l5, rfl, _⟩ := id hv5
    have hx4 := HX3.out.below hb4
    have hbel4 := HB3.out.trans (hb4.mono HB3.out.size)
    have hs3'' := (HS3'.out.mono (belowN (Below.refl _ _) q3)).mono hb4
    have HV5 := Lib.hid hv5
    have HX4 := Lib.hid hx4
    have HB4 := Lib.hid hbel4
    have HS3'' := Lib.hid hs3''
    clear hv5 hx4 hbel4 hb4 hs3''
    go_wp2_with fail
    refine (r_Quotient_calls _ _ _ _ _ _ _ _ _ (H2.out.mono HB4.out) HS3''.out HC2.out HC3.out hn2 hn3 (by rw [HV3.out]; exact hg0)).mono ?_
    rintro e w5 ⟨v7, v8, rfl, hv7, _, hb5⟩
    rw [HY.out, HV3.out] at hv7
    obtain ⟨a7, n7, c7, l7, rfl, _⟩ := id hv7
    have hx5 := HX4.out.below hb5
    have hbel5 := HB4.out.trans (hb5.mono HB4.out.size)
    have hv5' := HV5.out.mono hb5
    have hf5 := hx5.free
    obtain ⟨k0, k1, k2⟩ := hx5.cells
    have HV7 := Lib.hid hv7
    have HX5 := Lib.hid hx5
    have HB5 := Lib.hid hbel5
    have HV5' := Lib.hid hv5'
    clear hv7 hx5 hbel5 hb5 hv5'
    go_wp2
    refine ret_R rfl rfl rfl HX5.out (HX5.out.noInt (by simp) (by simp) (by simp)) rfl HQ3.out.symm (d := y / G) ?_ HV7.out (.inl HQ2.out.symm) HB5.out (Nat.le_refl _)
    rw [HQ1.out]; exact HV5'.out
theorem NatV.zero_of {w : World} {v : Value} (h : NatV .u32 4294967296 w v 0) : ∃ a c, v = .slice a 0 c := by
  obtain ⟨ao, n, c, l, e, hs, hc, hv⟩ := h
  have := hc.nil_of (by omega) hv
  subst this
  have := hs.len
  simp at this
  subst this
  exact ⟨_, _, e⟩
theorem r_made_calls (neg : Bool) (vn vd : Value) (n d K : Nat) (w : World) (hn : NatV .u32 4294967296 w vn n) (hd : NatV .u32 4294967296 w vd d) (hd0 : d ≠ 0) (hK : K ≤ 536870912)
    (h1 : n < 4294967296 ^ K) (h2 : d < 4294967296 ^ K) : Calls Tryz.prog 116 #[.bool neg, vn, vd] w (RetQ w (mkQ neg n d)) := by
  rcases Nat.eq_zero_or_pos n with h | h
  · subst h
    obtain ⟨a, c, rfl⟩ := hn.zero_of
    rw [mkQ_zero]
    exact r_made_zero _ _ _ _ _
  · obtain ⟨a1, n1, c1, l1, rfl, hs1, hc1, rfl, hn1⟩ := hn.sz h1
    obtain ⟨a2, n2, c2, l2, rfl, hs2, hc2, rfl, hn2⟩ := hd.sz h2
    refine r_made_pos neg _ _ _ _ _ _ _ _ _ hs1 hc1 hs2 hc2 ?_ ?_ (by omega) (by omega)
    · rw [← hs1.len]; exact (hc1.length_pos_iff (by omega)).2 h
    · rw [← hs2.len]; exact (hc2.length_pos_iff (by omega)).2 (by omega)
end Go.Proofs.YtkfekkhhfpkfaaaGreat
