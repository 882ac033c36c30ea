/-
  The contracts of both sides' fractions, said of fractions that all functions bear ('Fit'); results; a fraction among the cells of a list.
-/
import Derived.Test.YtmnipggjjcmjkaaPkRatO
import Derived.Test.YtmnipggjjcmjkaaPkMemO
set_option linter.unusedSimpArgs false
set_option linter.unusedVariables false
namespace Go.Proofs.Ytmnipggjjcmjkaa
open Go.RowKit Dg
section
variable {w : World} {vx vy : Value} {x y : Rat}
theorem pAdd (hx : PV w vx x) (hy : PV w vy y) (fx : Fit x) (fy : Fit y) : Calls Try.prog 14 #[vx, vy] w (RetP w (x + y)) := p_Add_calls _ _ _ _ _ _ hx hy (by omega) fx.p fy.p
theorem pSub (hx : PV w vx x) (hy : PV w vy y) (fx : Fit x) (fy : Fit y) : Calls Try.prog 11 #[vx, vy] w (RetP w (x - y)) := p_Sub_calls _ _ _ _ _ _ hx hy (by omega) fx.p fy.p
theorem pMul (hx : PV w vx x) (hy : PV w vy y) (fx : Fit x) (fy : Fit y) : Calls Try.prog 20 #[vx, vy] w (RetP w (x * y)) := p_Mul_calls _ _ _ _ _ _ hx hy (by omega) fx.p fy.p
theorem pCmp (hx : PV w vx x) (hy : PV w vy y) (fx : Fit x) (fy : Fit y) : Calls Try.prog 13 #[vx, vy] w (RetV w (.int .i64 (sgQ (x - y)))) := p_Cmp_calls _ _ _ _ _ _ hx hy (by omega) fx.p fy.p
theorem pText (hx : PV w vx x) (fx : Fit x) : Calls Try.prog 41 #[vx] w (RetV w (strV (textQ x))) := p_Text_calls _ _ _ _ hx (by omega) fx.p
theorem pSign (hx : PV w vx x) : Calls Try.prog 22 #[vx] w (RetV w (.int .i64 (sgQ x))) := p_Sign_calls _ _ _ hx
end
theorem szQ_int {n : Int} (h : n.natAbs < 4294967296) : SzQ 1 (n : Rat) := by
  unfold SzQ
  rw [Rat.num_intCast, Rat.den_intCast]
  exact ⟨by rwa [Nat.pow_one], by decide⟩
theorem szQ_frac {n d : Int} (h : n.natAbs < 4294967296) (hd : d.natAbs < 4294967296) (h0 : d ≠ 0) : SzQ 1 ((n : Rat) / (d : Rat)) := by
  rw [frac_mk n d h0]
  exact mkQ_size _ _ _ (by omega) _ (by rwa [Nat.pow_one]) (by rwa [Nat.pow_one])
theorem sgQ_le (x : Rat) : sgQ x ≤ 0 ↔ ¬ 0 < x := by
  unfold sgQ
  have h1 : 0 < x ↔ 0 < x.num := by
    rw [← Rat.not_le, ← Int.not_le]
    have : x ≤ 0 ↔ x.num ≤ 0 := by rw [Rat.le_iff]; simp
    rw [this]
  rw [h1]
  split
  · omega
  · split <;> omega
theorem sgQ_lt (x : Rat) : sgQ x < 0 ↔ x < 0 := by
  unfold sgQ
  have h1 : x < 0 ↔ x.num < 0 := by rw [Rat.lt_iff]; simp
  rw [h1]
  split
  · omega
  · split <;> omega
def PC (w : World) (cs : List Value) (x : Rat) : Prop := ∃ a b c, cs = [a, b, c] ∧ PV w (.agg #[a, b, c]) x
def RC (w : World) (cs : List Value) (x : Rat) : Prop := ∃ a b c, cs = [a, b, c] ∧ RV w (.agg #[a, b, c]) x
theorem PC.kept : Kept PC := fun _ _ _ _ ⟨a, b, c, e, h⟩ hk => ⟨a, b, c, e, h.keep hk⟩
theorem RC.kept : Kept RC := fun _ _ _ _ ⟨a, b, c, e, h⟩ hk => ⟨a, b, c, e, h.keep hk⟩
theorem agg3 {a b c a' b' c' : Value} (h : Value.agg #[a, b, c] = Value.agg #[a', b', c']) : a = a' ∧ b = b' ∧ c = c' := by
  injection h with h
  injection h with h
  injection h with h1 h
  injection h with h2 h
  injection h with h3 h
  exact ⟨h1, h2, h3⟩
theorem sliceE {a a' : Option Addr} {n n' c c' : Nat} (h : Value.slice a n c = .slice a' n' c') : a = a' ∧ c = c' := by
  injection h with h1 h2 h3
  exact ⟨h1, h3⟩
def BoxP (w : World) (g : Nat) (x : Rat) : Prop := ∃ s a n c A N C, Bx w g 26 #[.bool s, .slice a n c, .slice A N C] ∧ PV w (.agg #[.bool s, .slice a n c, .slice A N C]) x
theorem RV.of_eq {w : World} {v : Value} {q q' : Rat} (h : RV w v q) (e : q = q') : RV w v q' := e ▸ h
end Go.Proofs.Ytmnipggjjcmjkaa
namespace Go.Proofs.Ytmnipggjjcmjkaa
open Go.RowKit Dg
abbrev Lay := Rat × Rat × Rat
def layPos (x : Lay) : Bool := decide (0 < x.1) && (decide (0 < x.2.1) && decide (0 < x.2.2))
def LaySz (B : Nat) (x : Lay) : Prop := SzQ B x.1 ∧ SzQ B x.2.1 ∧ SzQ B x.2.2
theorem szQ_one : SzQ 1 (1 : Rat) := szQ_int (n := 1) (by decide)
theorem szQ_zero : SzQ 1 (0 : Rat) := szQ_int (n := 0) (by decide)
section
variable {l : List Lay} {B : Nat} (hz : ∀ x ∈ l, LaySz B x) (hp : ∀ x ∈ l, layPos x = true)
include hz hp
end
def C3 (R : World → List Value → Rat → Prop) (w : World) (cs : List Value) (x : Lay) : Prop := ∃ c1 c2 c3, cs = c1 ++ (c2 ++ c3) ∧ R w c1 x.1 ∧ R w c2 x.2.1 ∧ R w c3 x.2.2
def C2 (R : World → List Value → Rat → Prop) (w : World) (cs : List Value) (x : Rat × Rat) : Prop := ∃ c1 c2, cs = c1 ++ c2 ∧ R w c1 x.1 ∧ R w c2 x.2
theorem C3.kept {R : World → List Value → Rat → Prop} (hR : Kept R) : Kept (C3 R) := fun _ _ _ _ ⟨c1, c2, c3, e, h1, h2, h3⟩ hk => ⟨c1, c2, c3, e, hR _ _ _ _ h1 hk, hR _ _ _ _ h2 hk, hR _ _ _ _ h3 hk⟩
theorem C2.kept {R : World → List Value → Rat → Prop} (hR : Kept R) : Kept (C2 R) := fun _ _ _ _ ⟨c1, c2, e, h1, h2⟩ hk => ⟨c1, c2, e, hR _ _ _ _ h1 hk, hR _ _ _ _ h2 hk⟩
end Go.Proofs.Ytmnipggjjcmjkaa
