/-
  The contracts of both sides' fractions, said of fractions that all functions bear ('Fit'); results; a fraction among the cells of a list.
-/
import Derived.Test.YtmnipggjjcmjkaaGreatPkRatO
import Derived.Test.YtmnipggjjcmjkaaGreatPkMemO
set_option linter.unusedSimpArgs false
set_option linter.unusedVariables false
namespace Go.Proofs.YtmnipggjjcmjkaaGreat
open Go.RowKit Dg

section
variable {w : World} {vx vy : Value} {x y : Rat}
theorem pAdd (hx : PV w vx x) (hy : PV w vy y) (fx : Fit x) (fy : Fit y) : Calls Tryz.prog 53 #[vx, vy] w (RetP w (x + y)) := p_Add_calls _ _ _ _ _ _ hx hy (by omega) fx.p fy.p
theorem pSub (hx : PV w vx x) (hy : PV w vy y) (fx : Fit x) (fy : Fit y) : Calls Tryz.prog 103 #[vx, vy] w (RetP w (x - y)) := p_Sub_calls _ _ _ _ _ _ hx hy (by omega) fx.p fy.p
theorem pMul (hx : PV w vx x) (hy : PV w vy y) (fx : Fit x) (fy : Fit y) : Calls Tryz.prog 52 #[vx, vy] w (RetP w (x * y)) := p_Mul_calls _ _ _ _ _ _ hx hy (by omega) fx.p fy.p
theorem pDiv (hx : PV w vx x) (hy : PV w vy y) (fx : Fit x) (fy : Fit y) (hy0 : y ≠ 0) : Calls Tryz.prog 140 #[vx, vy] w (RetPE w (x / y) 0) := p_Div_calls _ _ _ _ _ _ hx hy (by omega) fx.p fy.p hy0
theorem pCmp (hx : PV w vx x) (hy : PV w vy y) (fx : Fit x) (fy : Fit y) : Calls Tryz.prog 54 #[vx, vy] w (RetV w (.int .i64 (sgQ (x - y)))) := p_Cmp_calls _ _ _ _ _ _ hx hy (by omega) fx.p fy.p
theorem pText (hx : PV w vx x) (fx : Fit x) : Calls Tryz.prog 63 #[vx] w (RetV w (strV (textQ x))) := p_Text_calls _ _ _ _ hx (by omega) fx.p
theorem pSign (hx : PV w vx x) : Calls Tryz.prog 47 #[vx] w (RetV w (.int .i64 (sgQ x))) := p_Sign_calls _ _ _ hx
end

/-- Sizes: numbers of at most so many bits. -/
theorem szQ_int {n : Int} (h : n.natAbs < 4294967296) : SzQ 1 (n : Rat) := by
  unfold SzQ
  rw [Rat.num_intCast, Rat.den_intCast]
  exact ⟨by rwa [Nat.pow_one], by decide⟩
theorem szQ_frac {n d : Int} (h : n.natAbs < 4294967296) (hd : d.natAbs < 4294967296) (h0 : d ≠ 0) : SzQ 1 ((n : Rat) / (d : Rat)) := by
  rw [frac_mk n d h0]
  exact mkQ_size _ _ _ (by omega) _ (by rwa [Nat.pow_one]) (by rwa [Nat.pow_one])

theorem sgQ_le (x : Rat) : sgQ x ≤ 0 ↔ ¬ 0 < x := by
  unfold sgQ
  have h1 : 0 < x ↔ 0 < x.num := by
    rw [← Rat.not_le, ← Int.not_le]
    have : x ≤ 0 ↔ x.num ≤ 0 := by rw [Rat.le_iff]; simp
    rw [this]
  rw [h1]
  split
  · omega
  · split <;> omega
theorem sgQ_lt (x : Rat) : sgQ x < 0 ↔ x < 0 := by
  unfold sgQ
  have h1 : x < 0 ↔ x.num < 0 := by rw [Rat.lt_iff]; simp
  rw [h1]
  split
  · omega
  · split <;> omega

/-- A fraction of the program in three cells. -/
def PC (w : World) (cs : List Value) (x : Rat) : Prop := ∃ a b c, cs = [a, b, c] ∧ PV w (.agg #[a, b, c]) x
/-- A fraction of the reference in three cells. -/
def RC (w : World) (cs : List Value) (x : Rat) : Prop := ∃ a b c, cs = [a, b, c] ∧ RV w (.agg #[a, b, c]) x
theorem PC.kept : Kept PC := fun _ _ _ _ ⟨a, b, c, e, h⟩ hk => ⟨a, b, c, e, h.keep hk⟩
theorem RC.kept : Kept RC := fun _ _ _ _ ⟨a, b, c, e, h⟩ hk => ⟨a, b, c, e, h.keep hk⟩

theorem agg3 {a b c a' b' c' : Value} (h : Value.agg #[a, b, c] = Value.agg #[a', b', c']) : a = a' ∧ b = b' ∧ c = c' := by
  injection h with h
  injection h with h
  injection h with h1 h
  injection h with h2 h
  injection h with h3 h
  exact ⟨h1, h2, h3⟩

theorem sliceE {a a' : Option Addr} {n n' c c' : Nat} (h : Value.slice a n c = .slice a' n' c') : a = a' ∧ c = c' := by
  injection h with h1 h2 h3
  exact ⟨h1, h3⟩

/-- Block g is a variable that holds the fraction x. -/
def BoxP (w : World) (g : Nat) (x : Rat) : Prop := ∃ s a n c A N C, Bx w g 29 #[.bool s, .slice a n c, .slice A N C] ∧ PV w (.agg #[.bool s, .slice a n c, .slice A N C]) x

theorem RV.of_eq {w : World} {v : Value} {q q' : Rat} (h : RV w v q) (e : q = q') : RV w v q' := e ▸ h
end Go.Proofs.YtmnipggjjcmjkaaGreat
/-
  Echoes of layers, as plain functions on fractions; how great they get.
-/
namespace Go.Proofs.YtmnipggjjcmjkaaGreat
open Go.RowKit Dg

/-- A layer: impedance, thickness, speed. -/
abbrev Lay := Rat × Rat × Rat

/-- All numbers of a layer are above 0. -/
def layPos (x : Lay) : Bool := decide (0 < x.1) && (decide (0 < x.2.1) && decide (0 < x.2.2))
/-- All numbers of a layer are of at most B words. -/
def LaySz (B : Nat) (x : Lay) : Prop := SzQ B x.1 ∧ SzQ B x.2.1 ∧ SzQ B x.2.2


theorem szQ_one : SzQ 1 (1 : Rat) := szQ_int (n := 1) (by decide)
theorem szQ_zero : SzQ 1 (0 : Rat) := szQ_int (n := 0) (by decide)

section
variable {l : List Lay} {B : Nat} (hz : ∀ x ∈ l, LaySz B x) (hp : ∀ x ∈ l, layPos x = true)
include hz hp
end

/-- Cells of three fractions, of two. -/
def C3 (R : World → List Value → Rat → Prop) (w : World) (cs : List Value) (x : Lay) : Prop := ∃ c1 c2 c3, cs = c1 ++ (c2 ++ c3) ∧ R w c1 x.1 ∧ R w c2 x.2.1 ∧ R w c3 x.2.2
def C2 (R : World → List Value → Rat → Prop) (w : World) (cs : List Value) (x : Rat × Rat) : Prop := ∃ c1 c2, cs = c1 ++ c2 ∧ R w c1 x.1 ∧ R w c2 x.2
theorem C3.kept {R : World → List Value → Rat → Prop} (hR : Kept R) : Kept (C3 R) := fun _ _ _ _ ⟨c1, c2, c3, e, h1, h2, h3⟩ hk => ⟨c1, c2, c3, e, hR _ _ _ _ h1 hk, hR _ _ _ _ h2 hk, hR _ _ _ _ h3 hk⟩
theorem C2.kept {R : World → List Value → Rat → Prop} (hR : Kept R) : Kept (C2 R) := fun _ _ _ _ ⟨c1, c2, e, h1, h2⟩ hk => ⟨c1, c2, e, hR _ _ _ _ h1 hk, hR _ _ _ _ h2 hk⟩
end Go.Proofs.YtmnipggjjcmjkaaGreat
