/-
  The contracts of both sides' fractions, said of fractions that all functions bear ('Fit'); results; a fraction among the cells of a list.
-/
import Derived.Test.YtlmemilmhdhgbaaGreatPkRatO
import Derived.Test.YtlmemilmhdhgbaaGreatPkMemO
set_option linter.unusedSimpArgs false
set_option linter.unusedVariables false
namespace Go.Proofs.YtlmemilmhdhgbaaGreat
open Go.RowKit Dg
section
variable {w : World} {vx vy : Value} {x y : Rat}
theorem pAdd (hx : PV w vx x) (hy : PV w vy y) (fx : Fit x) (fy : Fit y) : Calls Tryz.prog 74 #[vx, vy] w (RetP w (x + y)) := p_Add_calls _ _ _ _ _ _ hx hy (by omega) fx.p fy.p
theorem pSub (hx : PV w vx x) (hy : PV w vy y) (fx : Fit x) (fy : Fit y) : Calls Tryz.prog 76 #[vx, vy] w (RetP w (x - y)) := p_Sub_calls _ _ _ _ _ _ hx hy (by omega) fx.p fy.p
theorem pMul (hx : PV w vx x) (hy : PV w vy y) (fx : Fit x) (fy : Fit y) : Calls Tryz.prog 34 #[vx, vy] w (RetP w (x * y)) := p_Mul_calls _ _ _ _ _ _ hx hy (by omega) fx.p fy.p
theorem pDiv (hx : PV w vx x) (hy : PV w vy y) (fx : Fit x) (fy : Fit y) (hy0 : y ≠ 0) : Calls Tryz.prog 75 #[vx, vy] w (RetPE w (x / y) 0) := p_Div_calls _ _ _ _ _ _ hx hy (by omega) fx.p fy.p hy0
theorem pCmp (hx : PV w vx x) (hy : PV w vy y) (fx : Fit x) (fy : Fit y) : Calls Tryz.prog 37 #[vx, vy] w (RetV w (.int .i64 (sgQ (x - y)))) := p_Cmp_calls _ _ _ _ _ _ hx hy (by omega) fx.p fy.p
theorem pText (hx : PV w vx x) (fx : Fit x) : Calls Tryz.prog 23 #[vx] w (RetV w (strV (textQ x))) := p_Text_calls _ _ _ _ hx (by omega) fx.p
theorem pSign (hx : PV w vx x) : Calls Tryz.prog 48 #[vx] w (RetV w (.int .i64 (sgQ x))) := p_Sign_calls _ _ _ hx
theorem rAdd (hx : RV w vx x) (hy : RV w vy y) (fx : Fit x) (fy : Fit y) : Calls Tryz.prog 44 #[vx, vy] w (RetQ w (x + y)) := r_Add_calls _ _ _ _ _ _ hx hy (Nat.le_refl _) fx fy
theorem rSub (hx : RV w vx x) (hy : RV w vy y) (fx : Fit x) (fy : Fit y) : Calls Tryz.prog 47 #[vx, vy] w (RetQ w (x - y)) := r_Sub_calls _ _ _ _ _ _ hx hy (Nat.le_refl _) fx fy
theorem rMul (hx : RV w vx x) (hy : RV w vy y) (fx : Fit x) (fy : Fit y) : Calls Tryz.prog 41 #[vx, vy] w (RetQ w (x * y)) := r_Mul_calls _ _ _ _ _ _ hx hy (Nat.le_refl _) fx fy
theorem rDiv (hx : RV w vx x) (hy : RV w vy y) (fx : Fit x) (fy : Fit y) (hy0 : y ≠ 0) : Calls Tryz.prog 45 #[vx, vy] w (RetQE w (x / y) 0) := r_Div_calls _ _ _ _ _ _ hx hy (Nat.le_refl _) fx fy hy0
theorem rCmp (hx : RV w vx x) (hy : RV w vy y) (fx : Fit x) (fy : Fit y) : Calls Tryz.prog 39 #[vx, vy] w (RetI w (.int .i64 (sgQ (x - y)))) := r_Cmp_calls _ _ _ _ _ _ hx hy (Nat.le_refl _) fx fy
theorem rText (hx : RV w vx x) (fx : Fit x) : Calls Tryz.prog 50 #[vx] w (RetI w (strV (textQ x))) := r_Text_calls _ _ _ _ hx (Nat.le_refl _) fx
theorem rSign (hx : RV w vx x) : Calls Tryz.prog 49 #[vx] w (RetI w (.int .i64 (sgQ x))) := r_Sign_calls _ _ _ hx
end
theorem szQ_int {n : Int} (h : n.natAbs < 4294967296) : SzQ 1 (n : Rat) := by
  unfold SzQ
  rw [Rat.num_intCast, Rat.den_intCast]
  exact ⟨by rwa [Nat.pow_one], by decide⟩
theorem szQ_frac {n d : Int} (h : n.natAbs < 4294967296) (hd : d.natAbs < 4294967296) (h0 : d ≠ 0) : SzQ 1 ((n : Rat) / (d : Rat)) := by
  rw [frac_mk n d h0]
  exact mkQ_size _ _ _ (by omega) _ (by rwa [Nat.pow_one]) (by rwa [Nat.pow_one])
theorem sgQ_le (x : Rat) : sgQ x ≤ 0 ↔ ¬ 0 < x := by
  unfold sgQ
  have h1 : 0 < x ↔ 0 < x.num := by
    rw [← Rat.not_le, ← Int.not_le]
    have : x ≤ 0 ↔ x.num ≤ 0 := by rw [Rat.le_iff]; simp
    rw [this]
  rw [h1]
  split
  · omega
  · split <;> omega
theorem sgQ_lt (x : Rat) : sgQ x < 0 ↔ x < 0 := by
  unfold sgQ
  have h1 : x < 0 ↔ x.num < 0 := by rw [Rat.lt_iff]; simp
  rw [h1]
  split
  · omega
  · split <;> omega
def PC (w : World) (cs : List Value) (x : Rat) : Prop := ∃ a b c, cs = [a, b, c] ∧ PV w (.agg #[a, b, c]) x
def RC (w : World) (cs : List Value) (x : Rat) : Prop := ∃ a b c, cs = [a, b, c] ∧ RV w (.agg #[a, b, c]) x
theorem PC.kept : Kept PC := fun _ _ _ _ ⟨a, b, c, e, h⟩ hk => ⟨a, b, c, e, h.keep hk⟩
theorem RC.kept : Kept RC := fun _ _ _ _ ⟨a, b, c, e, h⟩ hk => ⟨a, b, c, e, h.keep hk⟩
theorem agg3 {a b c a' b' c' : Value} (h : Value.agg #[a, b, c] = Value.agg #[a', b', c']) : a = a' ∧ b = b' ∧ c = c' := by
  injection h with h
  injection h with h
  injection h with h1 h
  injection h with h2 h
  injection h with h3 h
  exact ⟨h1, h2, h3⟩
theorem sliceE {a a' : Option Addr} {n n' c c' : Nat} (h : Value.slice a n c = .slice a' n' c') : a = a' ∧ c = c' := by
  injection h with h1 h2 h3
  exact ⟨h1, h3⟩
def BoxP (w : World) (g : Nat) (x : Rat) : Prop := ∃ s a n c A N C, Bx w g 34 #[.bool s, .slice a n c, .slice A N C] ∧ PV w (.agg #[.bool s, .slice a n c, .slice A N C]) x
def BoxR (w : World) (g : Nat) (x : Rat) : Prop := ∃ s a n c A N C, Bx w g 41 #[.bool s, .slice a n c, .slice A N C] ∧ RV w (.agg #[.bool s, .slice a n c, .slice A N C]) x
theorem RV.of_eq {w : World} {v : Value} {q q' : Rat} (h : RV w v q) (e : q = q') : RV w v q' := e ▸ h
end Go.Proofs.YtlmemilmhdhgbaaGreat
namespace Go.Proofs.YtlmemilmhdhgbaaGreat
open Go.RowKit Dg
abbrev Lay := Rat × Rat × Rat
def layPos (x : Lay) : Bool := decide (0 < x.1) && (decide (0 < x.2.1) && decide (0 < x.2.2))
def LaySz (B : Nat) (x : Lay) : Prop := SzQ B x.1 ∧ SzQ B x.2.1 ∧ SzQ B x.2.2
theorem szQ_one : SzQ 1 (1 : Rat) := szQ_int (n := 1) (by decide)
theorem szQ_zero : SzQ 1 (0 : Rat) := szQ_int (n := 0) (by decide)
section
variable {l : List Lay} {B : Nat} (hz : ∀ x ∈ l, LaySz B x) (hp : ∀ x ∈ l, layPos x = true)
include hz hp
end
end Go.Proofs.YtlmemilmhdhgbaaGreat
