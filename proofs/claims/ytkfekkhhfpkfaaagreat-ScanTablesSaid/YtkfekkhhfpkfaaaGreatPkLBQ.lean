/-
  Law 07: ScanBetween, over awake.
-/
import Derived.Test.YtkfekkhhfpkfaaaGreatPkTabQ
import Derived.Test.YtkfekkhhfpkfaaaGreatPkSteps2Q
import Derived.Test.YtkfekkhhfpkfaaaGreatPkDepthQ
import Derived.Test.YtkfekkhhfpkfaaaGreatPkReadQ
import Derived.OpenShut
set_option linter.unusedSimpArgs false
set_option linter.unusedVariables false
set_option maxRecDepth 100000
namespace Go.Proofs.YtkfekkhhfpkfaaaGreat
open Go.RowKit Dg
attribute [local go_sem ↓] Go.wp_at_zero Go.wp_at_succ
theorem porQ_inv {T : List Stp} {lo hi a b : Rat} {c : Int} (h : porQ T lo hi = (a, b, c)) (hc : c = 0) : tabE T = 0 ∧ risB T T.length = true ∧ (valQ T lo).2 = 0 ∧ (valQ T hi).2 = 0 ∧ a = (valQ T lo).1 ∧ b = (valQ T hi).1 := by
  unfold porQ at h
  by_cases e : tabE T = 0
  · rw [if_pos e] at h
    by_cases e1 : risB T T.length = false
    · rw [if_pos e1] at h; cases h; cases hc
    · rw [if_neg e1] at h
      by_cases e2 : (valQ T lo).2 = 0
      · rw [if_pos e2] at h
        by_cases e3 : (valQ T hi).2 = 0
        · rw [if_pos e3] at h; cases h
          exact ⟨e, by simpa using e1, e2, e3, rfl, rfl⟩
        · rw [if_neg e3] at h; cases h; cases hc
      · rw [if_neg e2] at h; cases h; cases hc
  · rw [if_neg e] at h; cases h; exact absurd hc e
def depQ (x y z u : Rat) : Rat × Rat × Int := if x < 0 then (0, 0, 1) else if z < 0 then (0, 0, 1) else (mulLo (mulLo x y z u) (mulHi x y z u) halfQ halfQ, mulHi (mulLo x y z u) (mulHi x y z u) halfQ halfQ, 0)
theorem l7_of_ {n d : Int} {q : Rat} (w : World) (o : DOk (n, d)) (hq : fracQ n d = q) : Calls Tryz.prog 26 #[.agg #[.int .i64 n, .int .i64 d]] w (RetP w q) := hq ▸ l7_of n d w o.1 o.2.1 o.2.2.1 o.2.2.2
theorem depQ_mid {x y z u a b : Rat} {c : Int} (sx : SzQ 100000 x) (sy : SzQ 100000 y) (sz : SzQ 100000 z) (su : SzQ 100000 u) (e : depQ x y z u = (a, b, c)) : Mid a ∧ Mid b := by
  unfold depQ at e
  by_cases h1 : x < 0
  · rw [if_pos h1] at e; cases e
    exact ⟨szQ_zero.mid, szQ_zero.mid⟩
  · rw [if_neg h1] at e
    by_cases h2 : z < 0
    · rw [if_pos h2] at e; cases e
      exact ⟨szQ_zero.mid, szQ_zero.mid⟩
    · rw [if_neg h2] at e; cases e
      have h := mul_sz (mul_sz sx sy sz su).1 (mul_sz sx sy sz su).2 szQ_half szQ_half
      exact ⟨h.1.mid, h.2.mid⟩
theorem porQ_mid {T : List Stp} {lo hi a b : Rat} {c : Int} (hz : TabSz T) (s1 : SzQ 100 lo) (s2 : SzQ 100 hi) (h : porQ T lo hi = (a, b, c)) : Mid a ∧ Mid b := by
  by_cases hc : c = 0
  · obtain ⟨_, _, _, _, rfl, rfl⟩ := porQ_inv h hc
    exact ⟨(valQ_sz hz s1).mid, (valQ_sz hz s2).mid⟩
  · unfold porQ at h
    have z := szQ_zero.mid (by omega)
    split at h
    · split at h
      · cases h; exact ⟨z, z⟩
      · split at h
        · split at h
          · cases h; exact absurd rfl hc
          · cases h; exact ⟨z, z⟩
        · cases h; exact ⟨z, z⟩
    · cases h; exact ⟨z, z⟩
theorem fullV_sz {T : List Stp} {x q : Rat} {c : Int} (hz : TabSz T) (s1 : SzQ 100 x) (h : fullV T x = (q, c)) : SzQ 400 q := by
  unfold fullV at h
  split at h
  · have := valQ_sz hz s1
    rwa [h] at this
  · cases h; exact szQ_zero.mono (by omega)
end Go.Proofs.YtkfekkhhfpkfaaaGreat
namespace Go.Proofs.YtkfekkhhfpkfaaaGreat
open Go.RowKit Dg Go.ChangeShapes Go.WideShapes Go.Deep
section
variable {H : Type} {enc : TypeId × Value → H} {W : World} {base b0 : Nat} {spare : Nat → Bool} {held : Bool} {r : Reach}
instance : Inhabited DP := ⟨((0, 0), (0, 0))⟩
theorem trod_pairC {n : Nat} {cs : List Value} {x : DataW H × List MemPlace} (h : DataW.trod enc Tryz.prog W base spare held n 68 cs = some x) : ∃ y : DP, QC W cs y ∧ (DOk y.1 ∧ DOk y.2) := by
  obtain ⟨xs, m, _, _, hsz, hl, hx⟩ := DataW.trod_array Tryz.underlying68 h
  rw [show Tryz.prog.cellsOf 68 = 4 from by kernel_rfl] at hsz
  have h0 := hx 0 (by omega)
  have h1 := hx 1 (by omega)
  rw [show Tryz.prog.cellsOf 67 = 2 from by kernel_rfl] at h0 h1
  rw [List.getElem?_eq_getElem (by omega)] at h0 h1
  obtain ⟨y0, e0, w0⟩ := trod_frac h0
  obtain ⟨y1, e1, w1⟩ := trod_frac h1
  match cs, hsz with
  | [c0, c1, c2, c3], _ =>
    simp at e0 e1
    obtain ⟨rfl, rfl⟩ := e0
    obtain ⟨rfl, rfl⟩ := e1
    exact ⟨(y0, y1), rfl, w0, w1⟩
theorem open_frac {v : Value} {d : DataW H} {p : List MemPlace} (hv : Value.okWide Tryz.prog W r b0 67 v) (h : DataW.Trod enc Tryz.prog W base spare held 67 v d p) :
    ∃ n1 d1 : Int, v = .agg #[.int .i64 n1, .int .i64 d1] ∧ DOk (n1, d1) := by
  simp only [Value.okWide, Tryz.underlying67] at hv
  obtain ⟨cs, rfl, hsz, _⟩ := hv
  obtain ⟨fuel, hf⟩ := h
  obtain ⟨y0, e0, w0⟩ := trod_frac hf
  obtain ⟨l⟩ := cs
  simp [Value.cells] at e0
  subst e0
  exact ⟨y0.1, y0.2, rfl, w0⟩
end
end Go.Proofs.YtkfekkhhfpkfaaaGreat
