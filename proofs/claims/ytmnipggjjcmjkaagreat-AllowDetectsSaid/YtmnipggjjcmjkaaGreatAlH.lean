/-
  Law 08: AllowBounds.
-/
import Derived.Test.YtmnipggjjcmjkaaGreatAlAw
import Derived.Test.YtmnipggjjcmjkaaGreatAlG
set_option linter.unusedSimpArgs false
set_option linter.unusedVariables false
namespace Go.Proofs.YtmnipggjjcmjkaaGreat
open Go.RowKit Dg
attribute [local go_sem ↓] Go.wp_at_zero Go.wp_at_succ

/-- Both ends of the bound of a class. -/
def dLo (n f : Nat) (u : Rat) (s : Nat) : Rat := if f = 0 then 0 else if u = 0 then 1 else atQs s (detQ n f u s)
def dHi (n f : Nat) (u : Rat) (s : Nat) : Rat := if f = 0 then 0 else if u = 0 then 1 else atQs s (detQ n f u s + 1)
theorem al_Det_e {v : Value} {u : Rat} {n f : Nat} {ni fi k : Int} (w : World) (hn : ni = n) (hf : fi = f) (h1 : 1 ≤ n) (h2 : n ≤ 64) (h3 : f ≤ n) (hu : PV w v u) (su : SzQ 1 u) (u0 : 0 ≤ u) (u1 : u ≤ 1) (hk : k ≤ 20) {S : Nat} (hS : (2 : Int) ^ (min (max k 0) 20).toNat = (S : Int)) (hS0 : 0 < S) (hS1 : S ≤ 2000000) {x y : Rat} (hx : dLo n f u S = x) (hy : dHi n f u S = y) :
    Calls Tryz.prog 27 #[.agg #[.int .i64 ni, .int .i64 fi], v, .int .i64 k] w (Ret2 (fun w v => PV2 w v x y) (fun _ v => v = .int .i64 0) w) := by
  subst hn hf hx hy
  by_cases a : f = 0
  · unfold dLo dHi
    rw [if_pos a, if_pos a]
    exact al_Det_nil k w h1 h2 h3 hu su u0 u1 a
  · by_cases b : u = 0
    · unfold dLo dHi
      rw [if_neg a, if_neg a, if_pos b, if_pos b]
      exact al_Det_sure k w h1 h2 h3 hu su u0 u1 a b
    · unfold dLo dHi
      rw [if_neg a, if_neg a, if_neg b, if_neg b]
      exact al_Det_ok k w h1 h2 h3 hu su u0 u1 a b hk hS hS0 hS1 rfl
theorem d_sz {n f s : Nat} {u : Rat} (hs : 0 < s) (h2 : s ≤ 2000000) : (SzQ 1 (dLo n f u s) ∧ SzQ 1 (dHi n f u s)) ∧ (0 ≤ dLo n f u s ∧ dLo n f u s ≤ 1) ∧ (0 ≤ dHi n f u s ∧ dHi n f u s ≤ 1) := by
  have a := det_lt (n := n) (f := f) (c := u) hs
  unfold dLo dHi
  split
  · exact ⟨⟨szQ_zero, szQ_zero⟩, by decide +kernel, by decide +kernel⟩
  · split
    · exact ⟨⟨szQ_one, szQ_one⟩, by decide +kernel, by decide +kernel⟩
    · exact ⟨⟨atQs_sz hs (by omega) h2, atQs_sz hs (by omega) h2⟩, atQs_bd hs (by omega), atQs_bd hs (by omega)⟩
theorem bounds_ok {n f g s : Nat} {u xl xh yl : Rat} (hs : 0 < s) (hfg : f ≤ g) (hg : g ≤ n) (u0 : 0 ≤ u) (u1 : u ≤ 1) (hxl : dLo n f u s = xl) (hxh : dHi n f u s = xh) (hyl : dLo n g u s = yl) :
    (¬ yl < xl) ∧ (xh - xl = 0 → f = 0 → xl = 0) ∧ (xh - xl = 0 → ¬ f = 0 → u = 0 ∧ xl = 1) ∧ (¬ xh - xl = 0 → tlQ xl n f ≤ 1 - u ∧ 1 - u < tlQ xh n f) := by
  subst hxl hxh hyl
  by_cases a : f = 0
  · unfold dLo dHi
    rw [if_pos a, if_pos a]
    refine ⟨Rat.not_lt.2 ?_, fun _ _ => rfl, fun _ h => absurd a h, fun h => absurd (by grind) h⟩
    exact ((d_sz (n := n) (f := g) (u := u) (s := 1) (by decide) (by decide)).2.1.1 |> fun _ => by
      split
      · exact Rat.le_refl
      · split
        · decide +kernel
        · exact (atQs_bd hs (Nat.le_of_lt (det_lt hs))).1)
  · have b : ¬ g = 0 := by omega
    by_cases c : u = 0
    · unfold dLo dHi
      rw [if_neg a, if_neg a, if_neg b, if_pos c, if_pos c, if_pos c]
      exact ⟨Rat.not_lt.2 Rat.le_refl, fun _ h => absurd h a, fun _ _ => ⟨c, rfl⟩, fun h => absurd (by grind) h⟩
    · unfold dLo dHi
      rw [if_neg a, if_neg a, if_neg b, if_neg c, if_neg c, if_neg c]
      have l := atQs_lt (i := detQ n f u s) hs
      refine ⟨Rat.not_lt.2 (atQs_mono hs (det_mono hs (by omega) hfg u1)), fun h => absurd h (by grind), fun h => absurd h (by grind), fun _ => ⟨det_lo hs (by omega) u1, det_hi hs (by omega) (by grind)⟩⟩
theorem al_Tail_e2 {v : Value} {p : Rat} {n f : Nat} {ni k : Int} (w : World) (hn : ni = n) (hk : k = f) (hp : PV w v p) (sp : SzQ 1 p) (h0 : 0 ≤ p) (h1 : p ≤ 1) (h64 : n ≤ 64) {q : Rat} (hq : tlQ p n f = q) : Calls Tryz.prog 12 #[.int .i64 ni, .int .i64 k, v] w (RetPE w q 0) := by
  subst hn hk
  exact al_Tail_ok w hp sp h0 h1 h64 ((tailQ_nat n f p).trans hq)


theorem pow_le7 (k : Nat) (h : k ≤ 7) : 0 < 2 ^ k ∧ 2 ^ k ≤ 2000000 := ⟨Nat.pow_pos (by decide), Nat.le_trans (Nat.pow_le_pow_right (by decide) h) (by decide)⟩
end Go.Proofs.YtmnipggjjcmjkaaGreat
