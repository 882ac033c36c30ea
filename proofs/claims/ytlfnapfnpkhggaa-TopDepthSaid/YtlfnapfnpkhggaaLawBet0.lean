/-
  Law 07: ScanBetween, over awake.
-/
import Derived.Test.YtlfnapfnpkhggaaPkTab
import Derived.Test.YtlfnapfnpkhggaaPkSteps2
import Derived.Test.YtlfnapfnpkhggaaPkDepth
set_option linter.unusedSimpArgs false
set_option linter.unusedVariables false
namespace Go.Proofs.Ytlfnapfnpkhggaa
open Go.RowKit Dg
attribute [local go_sem ↓] Go.wp_at_zero Go.wp_at_succ

theorem mnQ_or (x y : Rat) : mnQ x y = x ∨ mnQ x y = y := by unfold mnQ; split <;> simp
theorem mxQ_or (x y : Rat) : mxQ x y = x ∨ mxQ x y = y := by unfold mxQ; split <;> simp
theorem mnQ_le (x y : Rat) : mnQ x y ≤ x ∧ mnQ x y ≤ y ∧ x ≤ mxQ x y ∧ y ≤ mxQ x y := by unfold mnQ mxQ; grind
/-- The value lies between its neighbours'. -/
theorem between_has {T : List Stp} {x q : Rat} {c : Int} {k : Nat} (h : fullV T x = (q, c)) (hc : c = 0) (h1 : 1 ≤ k) (h2 : k < T.length) (h3 : taQ T (k - 1) ≤ x) (h4 : x ≤ taQ T k) : mnQ (vaQ T (k - 1)) (vaQ T k) ≤ q ∧ q ≤ mxQ (vaQ T (k - 1)) (vaQ T k) := by
  unfold fullV at h
  by_cases e : tabE T = 0
  · rw [if_pos e] at h
    have := (valQ_between (ascB_asc _ (tabE_ok e).2.2) (i := k) h1 h2 h3 h4).2
    rw [h] at this
    have m := mnQ_le (vaQ T (k - 1)) (vaQ T k)
    grind
  · rw [if_neg e] at h
    cases h
    exact absurd hc e
theorem porQ_inv {T : List Stp} {lo hi a b : Rat} {c : Int} (h : porQ T lo hi = (a, b, c)) (hc : c = 0) : tabE T = 0 ∧ risB T T.length = true ∧ (valQ T lo).2 = 0 ∧ (valQ T hi).2 = 0 ∧ a = (valQ T lo).1 ∧ b = (valQ T hi).1 := by
  unfold porQ at h
  by_cases e : tabE T = 0
  · rw [if_pos e] at h
    by_cases e1 : risB T T.length = false
    · rw [if_pos e1] at h; cases h; cases hc
    · rw [if_neg e1] at h
      by_cases e2 : (valQ T lo).2 = 0
      · rw [if_pos e2] at h
        by_cases e3 : (valQ T hi).2 = 0
        · rw [if_pos e3] at h; cases h
          exact ⟨e, by simpa using e1, e2, e3, rfl, rfl⟩
        · rw [if_neg e3] at h; cases h; cases hc
      · rw [if_neg e2] at h; cases h; cases hc
  · rw [if_neg e] at h; cases h; exact absurd hc e
/-- A narrower range of loss. -/
theorem por_in {T : List Stp} {lo hi lo' hi' a b a' b' : Rat} {c c' : Int} (h : porQ T lo hi = (a, b, c)) (hc : c = 0) (h1 : lo ≤ lo') (h2 : lo' ≤ hi') (h3 : hi' ≤ hi) (h' : porQ T lo' hi' = (a', b', c')) : c' = 0 ∧ (a ≤ a' ∧ a' ≤ b) ∧ (a ≤ b' ∧ b' ≤ b) := by
  obtain ⟨e1, e2, e3, e4, rfl, rfl⟩ := porQ_inv h hc
  have hT := ascB_asc _ (tabE_ok e1).2.2
  have hR := risB_ris _ e2
  obtain ⟨_, l1, _⟩ := valQ_ok e3
  obtain ⟨_, _, i, hi1, hi2⟩ := valQ_ok e4
  have f1 : (valQ T lo').2 = 0 := valQ_ok' (by grind) hi1 (by grind)
  have f2 : (valQ T hi').2 = 0 := valQ_ok' (by grind) hi1 (by grind)
  rw [porQ_ok e1 e2 (q := (valQ T lo').1) (c := (valQ T lo').2) rfl f1 (r := (valQ T hi').1) (d := (valQ T hi').2) rfl f2] at h'
  cases h'
  have g1 := valQ_mono hT hR e3 f1 h1
  have g2 := valQ_mono hT hR f1 f2 h2
  have g3 := valQ_mono hT hR f2 e4 h3
  exact ⟨rfl, ⟨g1, by grind⟩, ⟨by grind, g3⟩⟩
theorem mnL4 (a b c d : Rat) : mnL [a, b, c, d] 3 = (if d < (if c < (if b < a then b else a) then c else (if b < a then b else a)) then d else (if c < (if b < a then b else a) then c else (if b < a then b else a))) := rfl
theorem mxL4 (a b c d : Rat) : mxL [a, b, c, d] 3 = (if (if (if a < b then b else a) < c then c else (if a < b then b else a)) < d then d else (if (if a < b then b else a) < c then c else (if a < b then b else a))) := rfl
theorem mul_pos4 {x y z u : Rat} (h0 : 0 ≤ x) (h1 : x ≤ y) (h2 : 0 ≤ z) (h3 : z ≤ u) : mulLo x y z u = x * z ∧ mulHi x y z u = y * u := by
  have a1 := Rat.mul_nonneg h0 (show 0 ≤ u - z by grind)
  have a2 := Rat.mul_nonneg (show 0 ≤ y - x by grind) h2
  have a3 := Rat.mul_nonneg (show 0 ≤ y - x by grind) (show 0 ≤ u by grind)
  have a4 := Rat.mul_nonneg (show 0 ≤ y by grind) (show 0 ≤ u - z by grind)
  have b1 : x * z ≤ x * u := by grind
  have b2 : x * z ≤ y * z := by grind
  have b3 : x * u ≤ y * u := by grind
  have b4 : y * z ≤ y * u := by grind
  unfold mulLo mulHi
  rw [mnL4, mxL4]
  clear a1 a2 a3 a4
  generalize x * z = a at *
  generalize x * u = b at *
  generalize y * z = c at *
  generalize y * u = d at *
  constructor <;> grind
theorem half_pos : (0 : Rat) ≤ halfQ := by unfold halfQ; decide +kernel
/-- What Depth hands back. -/
def depQ (x y z u : Rat) : Rat × Rat × Int := if x < 0 then (0, 0, 1) else if z < 0 then (0, 0, 1) else (mulLo (mulLo x y z u) (mulHi x y z u) halfQ halfQ, mulHi (mulLo x y z u) (mulHi x y z u) halfQ halfQ, 0)
/-- What Depth hands back at ranges that do not lie below 0. -/
theorem depQ_pos {x y z u : Rat} (h0 : 0 ≤ x) (h1 : x ≤ y) (h2 : 0 ≤ z) (h3 : z ≤ u) : depQ x y z u = (x * z * halfQ, y * u * halfQ, 0) := by
  unfold depQ
  have e := mul_pos4 h0 h1 h2 h3
  rw [if_neg (Rat.not_lt.2 h0), if_neg (Rat.not_lt.2 h2), e.1, e.2]
  have k1 := Rat.mul_nonneg h0 h2
  have k2 := Rat.mul_nonneg (show 0 ≤ y - x by grind) h2
  have k3 := Rat.mul_nonneg (show 0 ≤ y by grind) (show 0 ≤ u - z by grind)
  have e2 := mul_pos4 (x := x * z) (y := y * u) (z := halfQ) (u := halfQ) k1 (by grind) half_pos Rat.le_refl
  rw [e2.1, e2.2]
/-- A narrower range of time. -/
theorem dep_in {lo hi lo' hi' z u a b a' b' : Rat} {c c' : Int} (h : depQ lo hi z u = (a, b, c)) (hc : c = 0) (h1 : lo ≤ lo') (h2 : lo' ≤ hi') (h3 : hi' ≤ hi) (hz : z ≤ u) (h' : depQ lo' hi' z u = (a', b', c')) : c' = 0 ∧ (a ≤ a' ∧ a' ≤ b) ∧ (a ≤ b' ∧ b' ≤ b) := by
  have hl : 0 ≤ lo := Rat.not_lt.1 fun hn => by unfold depQ at h; rw [if_pos hn] at h; cases h; cases hc
  have hz0 : 0 ≤ z := Rat.not_lt.1 fun hn => by unfold depQ at h; rw [if_neg (Rat.not_lt.2 hl), if_pos hn] at h; cases h; cases hc
  rw [depQ_pos hl (by grind) hz0 hz] at h
  rw [depQ_pos (by grind) h2 hz0 hz] at h'
  cases h
  cases h'
  have m : ∀ p q r : Rat, p ≤ q → 0 ≤ r → p * r ≤ q * r := fun p q r hpq hr => by have := Rat.mul_nonneg (show 0 ≤ q - p by grind) hr; grind
  have k := half_pos
  have a1 : lo * z * halfQ ≤ lo' * z * halfQ := m _ _ _ (m _ _ _ h1 hz0) k
  have a2 : lo' * z * halfQ ≤ hi' * z * halfQ := m _ _ _ (m _ _ _ h2 hz0) k
  have a3 : hi' * u * halfQ ≤ hi * u * halfQ := m _ _ _ (m _ _ _ h3 (by grind)) k
  have a4 : hi' * z * halfQ ≤ hi' * u * halfQ := m _ _ _ (by have := Rat.mul_nonneg (show 0 ≤ hi' by grind) (show 0 ≤ u - z by grind); grind) k
  exact ⟨rfl, ⟨a1, by grind⟩, ⟨by grind, a3⟩⟩
/-- The narrow range lies in the wide one. -/
theorem narrow_in {lo hi f g n m : Rat} (h : lo ≤ hi) (hf : 0 ≤ f ∧ f ≤ 1) (hg : 0 ≤ g ∧ g ≤ 1) (en : mnQ (lo + (hi - lo) * f) (lo + (hi - lo) * g) = n) (em : mxQ (lo + (hi - lo) * f) (lo + (hi - lo) * g) = m) : lo ≤ n ∧ n ≤ m ∧ m ≤ hi := by
  have a := between_lo' h hf.1 hf.2
  have b := between_lo' h hg.1 hg.2
  have c := mnQ_le (lo + (hi - lo) * f) (lo + (hi - lo) * g)
  rw [en, em] at c
  have d := mnQ_or (lo + (hi - lo) * f) (lo + (hi - lo) * g)
  have e := mxQ_or (lo + (hi - lo) * f) (lo + (hi - lo) * g)
  rw [en] at d
  rw [em] at e
  refine ⟨?_, by grind, ?_⟩
  · rcases d with d | d <;> rw [d]
    · exact a.1
    · exact b.1
  · rcases e with e | e <;> rw [e]
    · exact a.2
    · exact b.2
theorem l7_of_ {n d : Int} {q : Rat} (w : World) (o : DOk (n, d)) (hq : fracQ n d = q) : Calls Try.prog 36 #[.agg #[.int .i64 n, .int .i64 d]] w (RetP w q) := hq ▸ l7_of n d w o.1 o.2.1 o.2.2.1 o.2.2.2
theorem sc_Depth_dep {w : World} {v v' : Value} {x y z u a b : Rat} {c : Int} (h : PV2 w v x y) (h' : PV2 w v' z u) (sx : SzQ 100000 x) (sy : SzQ 100000 y) (sz : SzQ 100000 z) (su : SzQ 100000 u) (e : depQ x y z u = (a, b, c)) :
    Calls Try.prog 28 #[v, v'] w (Ret2 (fun w v => PV2 w v a b) (fun _ v => v = .int .i64 c) w) := by
  unfold depQ at e
  by_cases h1 : x < 0
  · rw [if_pos h1] at e; cases e
    exact sc_Depth_bad1 _ _ _ _ _ _ _ h (SzQ.mid sx) (SzQ.mid sy) h' (SzQ.mid sz) (SzQ.mid su) h1
  · rw [if_neg h1] at e
    by_cases h2 : z < 0
    · rw [if_pos h2] at e; cases e
      exact sc_Depth_bad2 _ _ _ _ _ _ _ h (SzQ.mid sx) (SzQ.mid sy) h' (SzQ.mid sz) (SzQ.mid su) (Rat.not_lt.1 h1) h2
    · rw [if_neg h2] at e; cases e
      exact sc_Depth_ok _ _ _ _ _ _ _ h (SzQ.mid sx) (SzQ.mid sy) h' (SzQ.mid sz) (SzQ.mid su) sx sy sz su (Rat.not_lt.1 h1) (Rat.not_lt.1 h2)
theorem depQ_mid {x y z u a b : Rat} {c : Int} (sx : SzQ 100000 x) (sy : SzQ 100000 y) (sz : SzQ 100000 z) (su : SzQ 100000 u) (e : depQ x y z u = (a, b, c)) : Mid a ∧ Mid b := by
  unfold depQ at e
  by_cases h1 : x < 0
  · rw [if_pos h1] at e; cases e
    exact ⟨szQ_zero.mid, szQ_zero.mid⟩
  · rw [if_neg h1] at e
    by_cases h2 : z < 0
    · rw [if_pos h2] at e; cases e
      exact ⟨szQ_zero.mid, szQ_zero.mid⟩
    · rw [if_neg h2] at e; cases e
      have h := mul_sz (mul_sz sx sy sz su).1 (mul_sz sx sy sz su).2 szQ_half szQ_half
      exact ⟨h.1.mid, h.2.mid⟩
theorem porQ_mid {T : List Stp} {lo hi a b : Rat} {c : Int} (hz : TabSz T) (s1 : SzQ 100 lo) (s2 : SzQ 100 hi) (h : porQ T lo hi = (a, b, c)) : Mid a ∧ Mid b := by
  by_cases hc : c = 0
  · obtain ⟨_, _, _, _, rfl, rfl⟩ := porQ_inv h hc
    exact ⟨(valQ_sz hz s1).mid, (valQ_sz hz s2).mid⟩
  · unfold porQ at h
    have z := szQ_zero.mid (by omega)
    split at h
    · split at h
      · cases h; exact ⟨z, z⟩
      · split at h
        · split at h
          · cases h; exact absurd rfl hc
          · cases h; exact ⟨z, z⟩
        · cases h; exact ⟨z, z⟩
    · cases h; exact ⟨z, z⟩
theorem fullV_sz {T : List Stp} {x q : Rat} {c : Int} (hz : TabSz T) (s1 : SzQ 100 x) (h : fullV T x = (q, c)) : SzQ 400 q := by
  unfold fullV at h
  split at h
  · have := valQ_sz hz s1
    rwa [h] at this
  · cases h; exact szQ_zero.mono (by omega)





end Go.Proofs.Ytlfnapfnpkhggaa
