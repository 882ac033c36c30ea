/-
  Law 07: ScanBetween, over awake.
-/
import Derived.Test.YtlfnapfnpkhggaaGreatPkTabQ
import Derived.Test.YtlfnapfnpkhggaaGreatPkSteps2Q
import Derived.Test.YtlfnapfnpkhggaaGreatPkDepthQ
set_option linter.unusedSimpArgs false
set_option linter.unusedVariables false
namespace Go.Proofs.YtlfnapfnpkhggaaGreat
open Go.RowKit Dg
attribute [local go_sem ↓] Go.wp_at_zero Go.wp_at_succ

theorem mnQ_or (x y : Rat) : mnQ x y = x ∨ mnQ x y = y := by unfold mnQ; split <;> simp
theorem mxQ_or (x y : Rat) : mxQ x y = x ∨ mxQ x y = y := by unfold mxQ; split <;> simp
theorem mnQ_le (x y : Rat) : mnQ x y ≤ x ∧ mnQ x y ≤ y ∧ x ≤ mxQ x y ∧ y ≤ mxQ x y := by unfold mnQ mxQ; grind
/-- The value lies between its neighbours'. -/
theorem between_has {T : List Stp} {x q : Rat} {c : Int} {k : Nat} (h : fullV T x = (q, c)) (hc : c = 0) (h1 : 1 ≤ k) (h2 : k < T.length) (h3 : taQ T (k - 1) ≤ x) (h4 : x ≤ taQ T k) : mnQ (vaQ T (k - 1)) (vaQ T k) ≤ q ∧ q ≤ mxQ (vaQ T (k - 1)) (vaQ T k) := by
  unfold fullV at h
  by_cases e : tabE T = 0
  · rw [if_pos e] at h
    have := (valQ_between (ascB_asc _ (tabE_ok e).2.2) (i := k) h1 h2 h3 h4).2
    rw [h] at this
    have m := mnQ_le (vaQ T (k - 1)) (vaQ T k)
    grind
  · rw [if_neg e] at h
    cases h
    exact absurd hc e
theorem porQ_inv {T : List Stp} {lo hi a b : Rat} {c : Int} (h : porQ T lo hi = (a, b, c)) (hc : c = 0) : tabE T = 0 ∧ risB T T.length = true ∧ (valQ T lo).2 = 0 ∧ (valQ T hi).2 = 0 ∧ a = (valQ T lo).1 ∧ b = (valQ T hi).1 := by
  unfold porQ at h
  by_cases e : tabE T = 0
  · rw [if_pos e] at h
    by_cases e1 : risB T T.length = false
    · rw [if_pos e1] at h; cases h; cases hc
    · rw [if_neg e1] at h
      by_cases e2 : (valQ T lo).2 = 0
      · rw [if_pos e2] at h
        by_cases e3 : (valQ T hi).2 = 0
        · rw [if_pos e3] at h; cases h
          exact ⟨e, by simpa using e1, e2, e3, rfl, rfl⟩
        · rw [if_neg e3] at h; cases h; cases hc
      · rw [if_neg e2] at h; cases h; cases hc
  · rw [if_neg e] at h; cases h; exact absurd hc e
/-- A narrower range of loss. -/
theorem por_in {T : List Stp} {lo hi lo' hi' a b a' b' : Rat} {c c' : Int} (h : porQ T lo hi = (a, b, c)) (hc : c = 0) (h1 : lo ≤ lo') (h2 : lo' ≤ hi') (h3 : hi' ≤ hi) (h' : porQ T lo' hi' = (a', b', c')) : c' = 0 ∧ (a ≤ a' ∧ a' ≤ b) ∧ (a ≤ b' ∧ b' ≤ b) := by
  obtain ⟨e1, e2, e3, e4, rfl, rfl⟩ := porQ_inv h hc
  have hT := ascB_asc _ (tabE_ok e1).2.2
  have hR := risB_ris _ e2
  obtain ⟨_, l1, _⟩ := valQ_ok e3
  obtain ⟨_, _, i, hi1, hi2⟩ := valQ_ok e4
  have f1 : (valQ T lo').2 = 0 := valQ_ok' (by grind) hi1 (by grind)
  have f2 : (valQ T hi').2 = 0 := valQ_ok' (by grind) hi1 (by grind)
  rw [porQ_ok e1 e2 (q := (valQ T lo').1) (c := (valQ T lo').2) rfl f1 (r := (valQ T hi').1) (d := (valQ T hi').2) rfl f2] at h'
  cases h'
  have g1 := valQ_mono hT hR e3 f1 h1
  have g2 := valQ_mono hT hR f1 f2 h2
  have g3 := valQ_mono hT hR f2 e4 h3
  exact ⟨rfl, ⟨g1, by grind⟩, ⟨by grind, g3⟩⟩
theorem mnL4 (a b c d : Rat) : mnL [a, b, c, d] 3 = (if d < (if c < (if b < a then b else a) then c else (if b < a then b else a)) then d else (if c < (if b < a then b else a) then c else (if b < a then b else a))) := rfl
theorem mxL4 (a b c d : Rat) : mxL [a, b, c, d] 3 = (if (if (if a < b then b else a) < c then c else (if a < b then b else a)) < d then d else (if (if a < b then b else a) < c then c else (if a < b then b else a))) := rfl
theorem mul_pos4 {x y z u : Rat} (h0 : 0 ≤ x) (h1 : x ≤ y) (h2 : 0 ≤ z) (h3 : z ≤ u) : mulLo x y z u = x * z ∧ mulHi x y z u = y * u := by
  have a1 := Rat.mul_nonneg h0 (show 0 ≤ u - z by grind)
  have a2 := Rat.mul_nonneg (show 0 ≤ y - x by grind) h2
  have a3 := Rat.mul_nonneg (show 0 ≤ y - x by grind) (show 0 ≤ u by grind)
  have a4 := Rat.mul_nonneg (show 0 ≤ y by grind) (show 0 ≤ u - z by grind)
  have b1 : x * z ≤ x * u := by grind
  have b2 : x * z ≤ y * z := by grind
  have b3 : x * u ≤ y * u := by grind
  have b4 : y * z ≤ y * u := by grind
  unfold mulLo mulHi
  rw [mnL4, mxL4]
  clear a1 a2 a3 a4
  generalize x * z = a at *
  generalize x * u = b at *
  generalize y * z = c at *
  generalize y * u = d at *
  constructor <;> grind
theorem half_pos : (0 : Rat) ≤ halfQ := by unfold halfQ; decide +kernel
/-- What Depth hands back. -/
def depQ (x y z u : Rat) : Rat × Rat × Int := if x < 0 then (0, 0, 1) else if z < 0 then (0, 0, 1) else (mulLo (mulLo x y z u) (mulHi x y z u) halfQ halfQ, mulHi (mulLo x y z u) (mulHi x y z u) halfQ halfQ, 0)
/-- What Depth hands back at ranges that do not lie below 0. -/
theorem depQ_pos {x y z u : Rat} (h0 : 0 ≤ x) (h1 : x ≤ y) (h2 : 0 ≤ z) (h3 : z ≤ u) : depQ x y z u = (x * z * halfQ, y * u * halfQ, 0) := by
  unfold depQ
  have e := mul_pos4 h0 h1 h2 h3
  rw [if_neg (Rat.not_lt.2 h0), if_neg (Rat.not_lt.2 h2), e.1, e.2]
  have k1 := Rat.mul_nonneg h0 h2
  have k2 := Rat.mul_nonneg (show 0 ≤ y - x by grind) h2
  have k3 := Rat.mul_nonneg (show 0 ≤ y by grind) (show 0 ≤ u - z by grind)
  have e2 := mul_pos4 (x := x * z) (y := y * u) (z := halfQ) (u := halfQ) k1 (by grind) half_pos Rat.le_refl
  rw [e2.1, e2.2]
/-- A narrower range of time. -/
theorem dep_in {lo hi lo' hi' z u a b a' b' : Rat} {c c' : Int} (h : depQ lo hi z u = (a, b, c)) (hc : c = 0) (h1 : lo ≤ lo') (h2 : lo' ≤ hi') (h3 : hi' ≤ hi) (hz : z ≤ u) (h' : depQ lo' hi' z u = (a', b', c')) : c' = 0 ∧ (a ≤ a' ∧ a' ≤ b) ∧ (a ≤ b' ∧ b' ≤ b) := by
  have hl : 0 ≤ lo := Rat.not_lt.1 fun hn => by unfold depQ at h; rw [if_pos hn] at h; cases h; cases hc
  have hz0 : 0 ≤ z := Rat.not_lt.1 fun hn => by unfold depQ at h; rw [if_neg (Rat.not_lt.2 hl), if_pos hn] at h; cases h; cases hc
  rw [depQ_pos hl (by grind) hz0 hz] at h
  rw [depQ_pos (by grind) h2 hz0 hz] at h'
  cases h
  cases h'
  have m : ∀ p q r : Rat, p ≤ q → 0 ≤ r → p * r ≤ q * r := fun p q r hpq hr => by have := Rat.mul_nonneg (show 0 ≤ q - p by grind) hr; grind
  have k := half_pos
  have a1 : lo * z * halfQ ≤ lo' * z * halfQ := m _ _ _ (m _ _ _ h1 hz0) k
  have a2 : lo' * z * halfQ ≤ hi' * z * halfQ := m _ _ _ (m _ _ _ h2 hz0) k
  have a3 : hi' * u * halfQ ≤ hi * u * halfQ := m _ _ _ (m _ _ _ h3 (by grind)) k
  have a4 : hi' * z * halfQ ≤ hi' * u * halfQ := m _ _ _ (by have := Rat.mul_nonneg (show 0 ≤ hi' by grind) (show 0 ≤ u - z by grind); grind) k
  exact ⟨rfl, ⟨a1, by grind⟩, ⟨by grind, a3⟩⟩
/-- The narrow range lies in the wide one. -/
theorem narrow_in {lo hi f g n m : Rat} (h : lo ≤ hi) (hf : 0 ≤ f ∧ f ≤ 1) (hg : 0 ≤ g ∧ g ≤ 1) (en : mnQ (lo + (hi - lo) * f) (lo + (hi - lo) * g) = n) (em : mxQ (lo + (hi - lo) * f) (lo + (hi - lo) * g) = m) : lo ≤ n ∧ n ≤ m ∧ m ≤ hi := by
  have a := between_lo' h hf.1 hf.2
  have b := between_lo' h hg.1 hg.2
  have c := mnQ_le (lo + (hi - lo) * f) (lo + (hi - lo) * g)
  rw [en, em] at c
  have d := mnQ_or (lo + (hi - lo) * f) (lo + (hi - lo) * g)
  have e := mxQ_or (lo + (hi - lo) * f) (lo + (hi - lo) * g)
  rw [en] at d
  rw [em] at e
  refine ⟨?_, by grind, ?_⟩
  · rcases d with d | d <;> rw [d]
    · exact a.1
    · exact b.1
  · rcases e with e | e <;> rw [e]
    · exact a.2
    · exact b.2
theorem p_Hull2 {w : World} {v v' : Value} {x y : Rat} (h : PV2 w v x x) (h' : PV2 w v' y y) (sx : Mid x) (sy : Mid y) : Calls Tryz.prog 47 #[v, v'] w (Ret1 (fun w v => PV2 w v (mnQ x y) (mxQ x y)) w) := by
  have := p_Hull _ _ _ _ _ _ _ h sx sx h' sy sy
  rw [mnL2, mxL2] at this
  exact this
theorem l7_of_ {n d : Int} {q : Rat} (w : World) (o : DOk (n, d)) (hq : fracQ n d = q) : Calls Tryz.prog 44 #[.agg #[.int .i64 n, .int .i64 d]] w (RetP w q) := hq ▸ l7_of n d w o.1 o.2.1 o.2.2.1 o.2.2.2
theorem sc_Depth_dep {w : World} {v v' : Value} {x y z u a b : Rat} {c : Int} (h : PV2 w v x y) (h' : PV2 w v' z u) (sx : SzQ 100000 x) (sy : SzQ 100000 y) (sz : SzQ 100000 z) (su : SzQ 100000 u) (e : depQ x y z u = (a, b, c)) :
    Calls Tryz.prog 38 #[v, v'] w (Ret2 (fun w v => PV2 w v a b) (fun _ v => v = .int .i64 c) w) := by
  unfold depQ at e
  by_cases h1 : x < 0
  · rw [if_pos h1] at e; cases e
    exact sc_Depth_bad1 _ _ _ _ _ _ _ h (SzQ.mid sx) (SzQ.mid sy) h' (SzQ.mid sz) (SzQ.mid su) h1
  · rw [if_neg h1] at e
    by_cases h2 : z < 0
    · rw [if_pos h2] at e; cases e
      exact sc_Depth_bad2 _ _ _ _ _ _ _ h (SzQ.mid sx) (SzQ.mid sy) h' (SzQ.mid sz) (SzQ.mid su) (Rat.not_lt.1 h1) h2
    · rw [if_neg h2] at e; cases e
      exact sc_Depth_ok _ _ _ _ _ _ _ h (SzQ.mid sx) (SzQ.mid sy) h' (SzQ.mid sz) (SzQ.mid su) sx sy sz su (Rat.not_lt.1 h1) (Rat.not_lt.1 h2)
theorem depQ_mid {x y z u a b : Rat} {c : Int} (sx : SzQ 100000 x) (sy : SzQ 100000 y) (sz : SzQ 100000 z) (su : SzQ 100000 u) (e : depQ x y z u = (a, b, c)) : Mid a ∧ Mid b := by
  unfold depQ at e
  by_cases h1 : x < 0
  · rw [if_pos h1] at e; cases e
    exact ⟨szQ_zero.mid, szQ_zero.mid⟩
  · rw [if_neg h1] at e
    by_cases h2 : z < 0
    · rw [if_pos h2] at e; cases e
      exact ⟨szQ_zero.mid, szQ_zero.mid⟩
    · rw [if_neg h2] at e; cases e
      have h := mul_sz (mul_sz sx sy sz su).1 (mul_sz sx sy sz su).2 szQ_half szQ_half
      exact ⟨h.1.mid, h.2.mid⟩
theorem porQ_mid {T : List Stp} {lo hi a b : Rat} {c : Int} (hz : TabSz T) (s1 : SzQ 100 lo) (s2 : SzQ 100 hi) (h : porQ T lo hi = (a, b, c)) : Mid a ∧ Mid b := by
  by_cases hc : c = 0
  · obtain ⟨_, _, _, _, rfl, rfl⟩ := porQ_inv h hc
    exact ⟨(valQ_sz hz s1).mid, (valQ_sz hz s2).mid⟩
  · unfold porQ at h
    have z := szQ_zero.mid (by omega)
    split at h
    · split at h
      · cases h; exact ⟨z, z⟩
      · split at h
        · split at h
          · cases h; exact absurd rfl hc
          · cases h; exact ⟨z, z⟩
        · cases h; exact ⟨z, z⟩
    · cases h; exact ⟨z, z⟩
theorem fullV_sz {T : List Stp} {x q : Rat} {c : Int} (hz : TabSz T) (s1 : SzQ 100 x) (h : fullV T x = (q, c)) : SzQ 400 q := by
  unfold fullV at h
  split at h
  · have := valQ_sz hz s1
    rwa [h] at this
  · cases h; exact szQ_zero.mono (by omega)

set_option maxRecDepth 100000 in
set_option maxHeartbeats 4000000 in
theorem l7_ScanBetween_bad1 (hAw : ∀ w : World, Calls Tryz.prog 12 #[] w (RetV w (.bool true))) (v : Value) (l : List DP) (n1 d1 n3 d3 n4 d4 b0 b1 n5 d5 n6 d6 : Int) (w : World) (hl : RowsI 4 QC w v l) (af : ¬ briefQ l = true) :
    Calls Tryz.prog 8 #[v, .agg #[.int .i64 n1, .int .i64 d1], .agg #[.int .i64 n3, .int .i64 d3, .int .i64 n4, .int .i64 d4], .agg #[.int .u8 b0, .int .u8 b1], .agg #[.int .i64 n5, .int .i64 d5, .int .i64 n6, .int .i64 d6]] w (RetV w (.bool true)) := by
  obtain ⟨ao, cap, rfl, hc1, hc2, hc3⟩ := hl.slice
  have hs := Below.refl w.heap.size w
  have HAW := Lib.hid hAw
  have HL := Lib.hid hl
  have HFF := Lib.hid af
  clear hAw hl af
  go_enter Tryz.func8, Tryz.ntmps8
  go_wp2_with fail
  refine Calls.abs ?_
  intro w1 hW
  have hG : Gr [] w w1 := by rw [hW]; exact (Gr.refl _ _).alloc.alloc.alloc.alloc
  have hbw : Below w.heap.size w w1 := hG.below0 hs.size
  have hk : KeepD w w1 := hG.keep True.intro
  have sz_w1 : w.heap.size ≤ w.heap.size := hs.size
  have Blat : Bx w1 (w.heap.size) 82 #[.int .i64 n1, .int .i64 d1] := by rw [hW]; exact ((((Bx.new0 _ _ _).alloc _).alloc _).alloc _)
  have Blloss : Bx w1 (w.heap.size + 1) 83 #[.int .i64 n3, .int .i64 d3, .int .i64 n4, .int .i64 d4] := by rw [hW]; exact (((Bx.new0 _ _ _).alloc _).alloc _)
  have Blpart : Bx w1 (w.heap.size + 1 + 1) 104 #[.int .u8 b0, .int .u8 b1] := by rw [hW]; exact ((Bx.new0 _ _ _).alloc _)
  have Blspeed : Bx w1 (w.heap.size + 1 + 1 + 1) 83 #[.int .i64 n5, .int .i64 d5, .int .i64 n6, .int .i64 d6] := by rw [hW]; exact (Bx.new0 _ _ _)
  replace hs := hs.trans hbw
  clear hW hG hk hbw
  have hz_w1 : w.heap.size + 1 + 1 + 1 < w1.heap.size := Blspeed.lt
  with_reducible refine (l7_brief _ l _ (HL.out.mono QC.kept hs)).mono ?_
  rintro e w2 ⟨rfl, hb⟩
  replace hs := bStep hs hb
  replace Blat := Blat.mono hb
  replace Blloss := Blloss.mono hb
  replace Blpart := Blpart.mono hb
  replace Blspeed := Blspeed.mono hb
  clear hb
  obtain ⟨b1, Hb1⟩ : ∃ b : Bool, b = briefQ l := ⟨_, rfl⟩
  rw [← Hb1]
  replace Hb1 := Lib.hid Hb1
  have q2 : ¬ (briefQ l = true) := HFF.out
  obtain rfl : b1 = false := by rw [Hb1.out]; simpa using q2
  have q2H := Lib.hid q2
  clear q2
  go_wp2_with fail
  with_reducible refine (HAW.out _).mono ?_
  rintro e w3 ⟨rfl, hb⟩
  replace hs := bStep hs hb
  replace Blat := Blat.mono hb
  replace Blloss := Blloss.mono hb
  replace Blpart := Blpart.mono hb
  replace Blspeed := Blspeed.mono hb
  clear hb
  go_wp2
  go_ret
  exact ⟨rfl, hs⟩

set_option maxRecDepth 100000 in
set_option maxHeartbeats 4000000 in
theorem l7_ScanBetween_bad2 (hAw : ∀ w : World, Calls Tryz.prog 12 #[] w (RetV w (.bool true))) (v : Value) (l : List DP) (n1 d1 n3 d3 n4 d4 b0 b1 n5 d5 n6 d6 : Int) (w : World) (hl : RowsI 4 QC w v l) (a0 : briefQ l = true) (af : ¬ [(n1, d1)].all shortF = true) :
    Calls Tryz.prog 8 #[v, .agg #[.int .i64 n1, .int .i64 d1], .agg #[.int .i64 n3, .int .i64 d3, .int .i64 n4, .int .i64 d4], .agg #[.int .u8 b0, .int .u8 b1], .agg #[.int .i64 n5, .int .i64 d5, .int .i64 n6, .int .i64 d6]] w (RetV w (.bool true)) := by
  obtain ⟨ao, cap, rfl, hc1, hc2, hc3⟩ := hl.slice
  have hs := Below.refl w.heap.size w
  have HAW := Lib.hid hAw
  have HL := Lib.hid hl
  have HT0 := Lib.hid a0
  have HFF := Lib.hid af
  clear hAw hl a0 af
  go_enter Tryz.func8, Tryz.ntmps8
  go_wp2_with fail
  refine Calls.abs ?_
  intro w1 hW
  have hG : Gr [] w w1 := by rw [hW]; exact (Gr.refl _ _).alloc.alloc.alloc.alloc
  have hbw : Below w.heap.size w w1 := hG.below0 hs.size
  have hk : KeepD w w1 := hG.keep True.intro
  have sz_w1 : w.heap.size ≤ w.heap.size := hs.size
  have Blat : Bx w1 (w.heap.size) 82 #[.int .i64 n1, .int .i64 d1] := by rw [hW]; exact ((((Bx.new0 _ _ _).alloc _).alloc _).alloc _)
  have Blloss : Bx w1 (w.heap.size + 1) 83 #[.int .i64 n3, .int .i64 d3, .int .i64 n4, .int .i64 d4] := by rw [hW]; exact (((Bx.new0 _ _ _).alloc _).alloc _)
  have Blpart : Bx w1 (w.heap.size + 1 + 1) 104 #[.int .u8 b0, .int .u8 b1] := by rw [hW]; exact ((Bx.new0 _ _ _).alloc _)
  have Blspeed : Bx w1 (w.heap.size + 1 + 1 + 1) 83 #[.int .i64 n5, .int .i64 d5, .int .i64 n6, .int .i64 d6] := by rw [hW]; exact (Bx.new0 _ _ _)
  replace hs := hs.trans hbw
  clear hW hG hk hbw
  have hz_w1 : w.heap.size + 1 + 1 + 1 < w1.heap.size := Blspeed.lt
  with_reducible refine (l7_brief _ l _ (HL.out.mono QC.kept hs)).mono ?_
  rintro e w2 ⟨rfl, hb⟩
  replace hs := bStep hs hb
  replace Blat := Blat.mono hb
  replace Blloss := Blloss.mono hb
  replace Blpart := Blpart.mono hb
  replace Blspeed := Blspeed.mono hb
  clear hb
  obtain ⟨b1, Hb1⟩ : ∃ b : Bool, b = briefQ l := ⟨_, rfl⟩
  rw [← Hb1]
  replace Hb1 := Lib.hid Hb1
  have q2 : briefQ l = true := HT0.out
  obtain rfl : b1 = true := by rw [Hb1.out]; exact q2
  have q2H := Lib.hid q2
  clear q2
  have cat_0 : w2.cell? ⟨w.heap.size, 0, none⟩ = some (.int .i64 n1) := Blat.at 0 rfl
  have cat_1 : w2.cell? ⟨w.heap.size, 1, none⟩ = some (.int .i64 d1) := Blat.at 1 rfl
  have Lat : w.heap.size < w2.heap.size := Blat.lt
  go_wp2_with fail
  clear cat_0 cat_1 Lat
  refine Calls.abs ?_
  intro w3 hW
  have hG : Gr [] w2 w3 := by rw [hW]; exact (Gr.refl _ _).alloc
  have hbw : Below w.heap.size w2 w3 := hG.below0 hs.size
  have hk : KeepD w2 w3 := hG.keep True.intro
  have sz_w3 : w.heap.size ≤ w2.heap.size := hs.size
  have nat_w3 : w.heap.size < w2.heap.size := Blat.lt
  have nloss_w3 : w.heap.size + 1 < w2.heap.size := Blloss.lt
  have npart_w3 : w.heap.size + 1 + 1 < w2.heap.size := Blpart.lt
  have nspeed_w3 : w.heap.size + 1 + 1 + 1 < w2.heap.size := Blspeed.lt
  have Blls : Bx w3 (w2.heap.size) 82 #[.int .i64 n1, .int .i64 d1] := by rw [hW]; exact (Bx.new0 _ _ _)
  replace hs := hs.trans hbw
  replace Blat := hG.bx Blat notMem0
  replace Blloss := hG.bx Blloss notMem0
  replace Blpart := hG.bx Blpart notMem0
  replace Blspeed := hG.bx Blspeed notMem0
  clear hW hG hk hbw
  have hz_w3 : w2.heap.size < w3.heap.size := Blls.lt
  with_reducible refine (l7_short _ [(n1, d1)] _ (rowsF1 Blls)).mono ?_
  rintro e w4 ⟨rfl, hb⟩
  replace hs := bStep hs hb
  replace Blat := Blat.mono hb
  replace Blloss := Blloss.mono hb
  replace Blpart := Blpart.mono hb
  replace Blspeed := Blspeed.mono hb
  replace Blls := Blls.mono hb
  clear hb
  obtain ⟨b3, Hb3⟩ : ∃ b : Bool, b = [(n1, d1)].all shortF := ⟨_, rfl⟩
  rw [← Hb3]
  replace Hb3 := Lib.hid Hb3
  have q4 : ¬ ([(n1, d1)].all shortF = true) := HFF.out
  obtain rfl : b3 = false := by rw [Hb3.out]; simpa using q4
  have q4H := Lib.hid q4
  clear q4
  go_wp2_with fail
  with_reducible refine (HAW.out _).mono ?_
  rintro e w5 ⟨rfl, hb⟩
  replace hs := bStep hs hb
  replace Blat := Blat.mono hb
  replace Blloss := Blloss.mono hb
  replace Blpart := Blpart.mono hb
  replace Blspeed := Blspeed.mono hb
  replace Blls := Blls.mono hb
  clear hb
  go_wp2
  go_ret
  exact ⟨rfl, hs⟩

set_option maxRecDepth 100000 in
set_option maxHeartbeats 4000000 in
theorem l7_ScanBetween_bad3 (hAw : ∀ w : World, Calls Tryz.prog 12 #[] w (RetV w (.bool true))) (v : Value) (l : List DP) (n1 d1 n3 d3 n4 d4 b0 b1 n5 d5 n6 d6 : Int) (w : World) (hl : RowsI 4 QC w v l) (a0 : briefQ l = true) (a1 : [(n1, d1)].all shortF = true) (af : ¬ [(n3, d3), (n4, d4)].all shortF = true) :
    Calls Tryz.prog 8 #[v, .agg #[.int .i64 n1, .int .i64 d1], .agg #[.int .i64 n3, .int .i64 d3, .int .i64 n4, .int .i64 d4], .agg #[.int .u8 b0, .int .u8 b1], .agg #[.int .i64 n5, .int .i64 d5, .int .i64 n6, .int .i64 d6]] w (RetV w (.bool true)) := by
  obtain ⟨ao, cap, rfl, hc1, hc2, hc3⟩ := hl.slice
  have hs := Below.refl w.heap.size w
  have HAW := Lib.hid hAw
  have HL := Lib.hid hl
  have HT0 := Lib.hid a0
  have HT1 := Lib.hid a1
  have HFF := Lib.hid af
  clear hAw hl a0 a1 af
  go_enter Tryz.func8, Tryz.ntmps8
  go_wp2_with fail
  refine Calls.abs ?_
  intro w1 hW
  have hG : Gr [] w w1 := by rw [hW]; exact (Gr.refl _ _).alloc.alloc.alloc.alloc
  have hbw : Below w.heap.size w w1 := hG.below0 hs.size
  have hk : KeepD w w1 := hG.keep True.intro
  have sz_w1 : w.heap.size ≤ w.heap.size := hs.size
  have Blat : Bx w1 (w.heap.size) 82 #[.int .i64 n1, .int .i64 d1] := by rw [hW]; exact ((((Bx.new0 _ _ _).alloc _).alloc _).alloc _)
  have Blloss : Bx w1 (w.heap.size + 1) 83 #[.int .i64 n3, .int .i64 d3, .int .i64 n4, .int .i64 d4] := by rw [hW]; exact (((Bx.new0 _ _ _).alloc _).alloc _)
  have Blpart : Bx w1 (w.heap.size + 1 + 1) 104 #[.int .u8 b0, .int .u8 b1] := by rw [hW]; exact ((Bx.new0 _ _ _).alloc _)
  have Blspeed : Bx w1 (w.heap.size + 1 + 1 + 1) 83 #[.int .i64 n5, .int .i64 d5, .int .i64 n6, .int .i64 d6] := by rw [hW]; exact (Bx.new0 _ _ _)
  replace hs := hs.trans hbw
  clear hW hG hk hbw
  have hz_w1 : w.heap.size + 1 + 1 + 1 < w1.heap.size := Blspeed.lt
  with_reducible refine (l7_brief _ l _ (HL.out.mono QC.kept hs)).mono ?_
  rintro e w2 ⟨rfl, hb⟩
  replace hs := bStep hs hb
  replace Blat := Blat.mono hb
  replace Blloss := Blloss.mono hb
  replace Blpart := Blpart.mono hb
  replace Blspeed := Blspeed.mono hb
  clear hb
  obtain ⟨b1, Hb1⟩ : ∃ b : Bool, b = briefQ l := ⟨_, rfl⟩
  rw [← Hb1]
  replace Hb1 := Lib.hid Hb1
  have q2 : briefQ l = true := HT0.out
  obtain rfl : b1 = true := by rw [Hb1.out]; exact q2
  have q2H := Lib.hid q2
  clear q2
  have cat_0 : w2.cell? ⟨w.heap.size, 0, none⟩ = some (.int .i64 n1) := Blat.at 0 rfl
  have cat_1 : w2.cell? ⟨w.heap.size, 1, none⟩ = some (.int .i64 d1) := Blat.at 1 rfl
  have Lat : w.heap.size < w2.heap.size := Blat.lt
  go_wp2_with fail
  clear cat_0 cat_1 Lat
  refine Calls.abs ?_
  intro w3 hW
  have hG : Gr [] w2 w3 := by rw [hW]; exact (Gr.refl _ _).alloc
  have hbw : Below w.heap.size w2 w3 := hG.below0 hs.size
  have hk : KeepD w2 w3 := hG.keep True.intro
  have sz_w3 : w.heap.size ≤ w2.heap.size := hs.size
  have nat_w3 : w.heap.size < w2.heap.size := Blat.lt
  have nloss_w3 : w.heap.size + 1 < w2.heap.size := Blloss.lt
  have npart_w3 : w.heap.size + 1 + 1 < w2.heap.size := Blpart.lt
  have nspeed_w3 : w.heap.size + 1 + 1 + 1 < w2.heap.size := Blspeed.lt
  have Blls : Bx w3 (w2.heap.size) 82 #[.int .i64 n1, .int .i64 d1] := by rw [hW]; exact (Bx.new0 _ _ _)
  replace hs := hs.trans hbw
  replace Blat := hG.bx Blat notMem0
  replace Blloss := hG.bx Blloss notMem0
  replace Blpart := hG.bx Blpart notMem0
  replace Blspeed := hG.bx Blspeed notMem0
  clear hW hG hk hbw
  have hz_w3 : w2.heap.size < w3.heap.size := Blls.lt
  with_reducible refine (l7_short _ [(n1, d1)] _ (rowsF1 Blls)).mono ?_
  rintro e w4 ⟨rfl, hb⟩
  replace hs := bStep hs hb
  replace Blat := Blat.mono hb
  replace Blloss := Blloss.mono hb
  replace Blpart := Blpart.mono hb
  replace Blspeed := Blspeed.mono hb
  replace Blls := Blls.mono hb
  clear hb
  obtain ⟨b3, Hb3⟩ : ∃ b : Bool, b = [(n1, d1)].all shortF := ⟨_, rfl⟩
  rw [← Hb3]
  replace Hb3 := Lib.hid Hb3
  have q4 : [(n1, d1)].all shortF = true := HT1.out
  obtain rfl : b3 = true := by rw [Hb3.out]; exact q4
  have q4H := Lib.hid q4
  clear q4
  go_wp2_with fail
  with_reducible refine (l7_short _ [(n3, d3), (n4, d4)] _ (rowsF2 Blloss)).mono ?_
  rintro e w5 ⟨rfl, hb⟩
  replace hs := bStep hs hb
  replace Blat := Blat.mono hb
  replace Blloss := Blloss.mono hb
  replace Blpart := Blpart.mono hb
  replace Blspeed := Blspeed.mono hb
  replace Blls := Blls.mono hb
  clear hb
  obtain ⟨b5, Hb5⟩ : ∃ b : Bool, b = [(n3, d3), (n4, d4)].all shortF := ⟨_, rfl⟩
  rw [← Hb5]
  replace Hb5 := Lib.hid Hb5
  have q6 : ¬ ([(n3, d3), (n4, d4)].all shortF = true) := HFF.out
  obtain rfl : b5 = false := by rw [Hb5.out]; simpa using q6
  have q6H := Lib.hid q6
  clear q6
  go_wp2_with fail
  with_reducible refine (HAW.out _).mono ?_
  rintro e w6 ⟨rfl, hb⟩
  replace hs := bStep hs hb
  replace Blat := Blat.mono hb
  replace Blloss := Blloss.mono hb
  replace Blpart := Blpart.mono hb
  replace Blspeed := Blspeed.mono hb
  replace Blls := Blls.mono hb
  clear hb
  go_wp2
  go_ret
  exact ⟨rfl, hs⟩

set_option maxRecDepth 100000 in
set_option maxHeartbeats 4000000 in
theorem l7_ScanBetween_bad4 (hAw : ∀ w : World, Calls Tryz.prog 12 #[] w (RetV w (.bool true))) (v : Value) (l : List DP) (n1 d1 n3 d3 n4 d4 b0 b1 n5 d5 n6 d6 : Int) (w : World) (hl : RowsI 4 QC w v l) (a0 : briefQ l = true) (a1 : [(n1, d1)].all shortF = true) (a2 : [(n3, d3), (n4, d4)].all shortF = true) (af : ¬ [(n5, d5), (n6, d6)].all shortF = true) :
    Calls Tryz.prog 8 #[v, .agg #[.int .i64 n1, .int .i64 d1], .agg #[.int .i64 n3, .int .i64 d3, .int .i64 n4, .int .i64 d4], .agg #[.int .u8 b0, .int .u8 b1], .agg #[.int .i64 n5, .int .i64 d5, .int .i64 n6, .int .i64 d6]] w (RetV w (.bool true)) := by
  obtain ⟨ao, cap, rfl, hc1, hc2, hc3⟩ := hl.slice
  have hs := Below.refl w.heap.size w
  have HAW := Lib.hid hAw
  have HL := Lib.hid hl
  have HT0 := Lib.hid a0
  have HT1 := Lib.hid a1
  have HT2 := Lib.hid a2
  have HFF := Lib.hid af
  clear hAw hl a0 a1 a2 af
  go_enter Tryz.func8, Tryz.ntmps8
  go_wp2_with fail
  refine Calls.abs ?_
  intro w1 hW
  have hG : Gr [] w w1 := by rw [hW]; exact (Gr.refl _ _).alloc.alloc.alloc.alloc
  have hbw : Below w.heap.size w w1 := hG.below0 hs.size
  have hk : KeepD w w1 := hG.keep True.intro
  have sz_w1 : w.heap.size ≤ w.heap.size := hs.size
  have Blat : Bx w1 (w.heap.size) 82 #[.int .i64 n1, .int .i64 d1] := by rw [hW]; exact ((((Bx.new0 _ _ _).alloc _).alloc _).alloc _)
  have Blloss : Bx w1 (w.heap.size + 1) 83 #[.int .i64 n3, .int .i64 d3, .int .i64 n4, .int .i64 d4] := by rw [hW]; exact (((Bx.new0 _ _ _).alloc _).alloc _)
  have Blpart : Bx w1 (w.heap.size + 1 + 1) 104 #[.int .u8 b0, .int .u8 b1] := by rw [hW]; exact ((Bx.new0 _ _ _).alloc _)
  have Blspeed : Bx w1 (w.heap.size + 1 + 1 + 1) 83 #[.int .i64 n5, .int .i64 d5, .int .i64 n6, .int .i64 d6] := by rw [hW]; exact (Bx.new0 _ _ _)
  replace hs := hs.trans hbw
  clear hW hG hk hbw
  have hz_w1 : w.heap.size + 1 + 1 + 1 < w1.heap.size := Blspeed.lt
  with_reducible refine (l7_brief _ l _ (HL.out.mono QC.kept hs)).mono ?_
  rintro e w2 ⟨rfl, hb⟩
  replace hs := bStep hs hb
  replace Blat := Blat.mono hb
  replace Blloss := Blloss.mono hb
  replace Blpart := Blpart.mono hb
  replace Blspeed := Blspeed.mono hb
  clear hb
  obtain ⟨b1, Hb1⟩ : ∃ b : Bool, b = briefQ l := ⟨_, rfl⟩
  rw [← Hb1]
  replace Hb1 := Lib.hid Hb1
  have q2 : briefQ l = true := HT0.out
  obtain rfl : b1 = true := by rw [Hb1.out]; exact q2
  have q2H := Lib.hid q2
  clear q2
  have cat_0 : w2.cell? ⟨w.heap.size, 0, none⟩ = some (.int .i64 n1) := Blat.at 0 rfl
  have cat_1 : w2.cell? ⟨w.heap.size, 1, none⟩ = some (.int .i64 d1) := Blat.at 1 rfl
  have Lat : w.heap.size < w2.heap.size := Blat.lt
  go_wp2_with fail
  clear cat_0 cat_1 Lat
  refine Calls.abs ?_
  intro w3 hW
  have hG : Gr [] w2 w3 := by rw [hW]; exact (Gr.refl _ _).alloc
  have hbw : Below w.heap.size w2 w3 := hG.below0 hs.size
  have hk : KeepD w2 w3 := hG.keep True.intro
  have sz_w3 : w.heap.size ≤ w2.heap.size := hs.size
  have nat_w3 : w.heap.size < w2.heap.size := Blat.lt
  have nloss_w3 : w.heap.size + 1 < w2.heap.size := Blloss.lt
  have npart_w3 : w.heap.size + 1 + 1 < w2.heap.size := Blpart.lt
  have nspeed_w3 : w.heap.size + 1 + 1 + 1 < w2.heap.size := Blspeed.lt
  have Blls : Bx w3 (w2.heap.size) 82 #[.int .i64 n1, .int .i64 d1] := by rw [hW]; exact (Bx.new0 _ _ _)
  replace hs := hs.trans hbw
  replace Blat := hG.bx Blat notMem0
  replace Blloss := hG.bx Blloss notMem0
  replace Blpart := hG.bx Blpart notMem0
  replace Blspeed := hG.bx Blspeed notMem0
  clear hW hG hk hbw
  have hz_w3 : w2.heap.size < w3.heap.size := Blls.lt
  with_reducible refine (l7_short _ [(n1, d1)] _ (rowsF1 Blls)).mono ?_
  rintro e w4 ⟨rfl, hb⟩
  replace hs := bStep hs hb
  replace Blat := Blat.mono hb
  replace Blloss := Blloss.mono hb
  replace Blpart := Blpart.mono hb
  replace Blspeed := Blspeed.mono hb
  replace Blls := Blls.mono hb
  clear hb
  obtain ⟨b3, Hb3⟩ : ∃ b : Bool, b = [(n1, d1)].all shortF := ⟨_, rfl⟩
  rw [← Hb3]
  replace Hb3 := Lib.hid Hb3
  have q4 : [(n1, d1)].all shortF = true := HT1.out
  obtain rfl : b3 = true := by rw [Hb3.out]; exact q4
  have q4H := Lib.hid q4
  clear q4
  go_wp2_with fail
  with_reducible refine (l7_short _ [(n3, d3), (n4, d4)] _ (rowsF2 Blloss)).mono ?_
  rintro e w5 ⟨rfl, hb⟩
  replace hs := bStep hs hb
  replace Blat := Blat.mono hb
  replace Blloss := Blloss.mono hb
  replace Blpart := Blpart.mono hb
  replace Blspeed := Blspeed.mono hb
  replace Blls := Blls.mono hb
  clear hb
  obtain ⟨b5, Hb5⟩ : ∃ b : Bool, b = [(n3, d3), (n4, d4)].all shortF := ⟨_, rfl⟩
  rw [← Hb5]
  replace Hb5 := Lib.hid Hb5
  have q6 : [(n3, d3), (n4, d4)].all shortF = true := HT2.out
  obtain rfl : b5 = true := by rw [Hb5.out]; exact q6
  have q6H := Lib.hid q6
  clear q6
  go_wp2_with fail
  with_reducible refine (l7_short _ [(n5, d5), (n6, d6)] _ (rowsF2 Blspeed)).mono ?_
  rintro e w6 ⟨rfl, hb⟩
  replace hs := bStep hs hb
  replace Blat := Blat.mono hb
  replace Blloss := Blloss.mono hb
  replace Blpart := Blpart.mono hb
  replace Blspeed := Blspeed.mono hb
  replace Blls := Blls.mono hb
  clear hb
  obtain ⟨b7, Hb7⟩ : ∃ b : Bool, b = [(n5, d5), (n6, d6)].all shortF := ⟨_, rfl⟩
  rw [← Hb7]
  replace Hb7 := Lib.hid Hb7
  have q8 : ¬ ([(n5, d5), (n6, d6)].all shortF = true) := HFF.out
  obtain rfl : b7 = false := by rw [Hb7.out]; simpa using q8
  have q8H := Lib.hid q8
  clear q8
  go_wp2_with fail
  with_reducible refine (HAW.out _).mono ?_
  rintro e w7 ⟨rfl, hb⟩
  replace hs := bStep hs hb
  replace Blat := Blat.mono hb
  replace Blloss := Blloss.mono hb
  replace Blpart := Blpart.mono hb
  replace Blspeed := Blspeed.mono hb
  replace Blls := Blls.mono hb
  clear hb
  go_wp2
  go_ret
  exact ⟨rfl, hs⟩

end Go.Proofs.YtlfnapfnpkhggaaGreat
