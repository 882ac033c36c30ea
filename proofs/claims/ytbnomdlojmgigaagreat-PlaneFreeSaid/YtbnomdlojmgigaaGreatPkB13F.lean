/-
  The contracts of the program's fractions, fifth part: Text.
-/
import Derived.Test.YtbnomdlojmgigaaGreatRatP4F
import Derived.Test.YtbnomdlojmgigaaGreatPkB2F
set_option linter.unusedSimpArgs false
set_option linter.unusedVariables false
set_option maxRecDepth 100000
set_option maxHeartbeats 4000000
namespace Go.Proofs.YtbnomdlojmgigaaGreat
open Go.RowKit Dg
theorem decS_lenP {n K : Nat} (h : n < 18446744073709551616 ^ K) : (decS n).length ≤ 64 * K + 1 := by
 unfold decS
 split
 ·simp
 have h1 := dgs_length n
 have h2 : bl n ≤ 64 * K := bl_le_of_lt (by rwa [show (18446744073709551616 : Nat) = 2 ^ 64 from rfl, ← Nat.pow_mul] at h)
 omega
theorem p_Text_calls (vx : Value) (x : Rat) (K : Nat) (w : World) (hx : PV w vx x) (hK : K ≤ 268435456) (sx : SzP K x) : Calls Tryz.prog 33 #[vx] w (RetV w (strV (textQ x))) := by
 obtain ⟨gx, ax, nx, cx, Ax, Nx, Cx, rfl⟩ := hx.shape
 have egx := hx.sign
 have EGx := Lib.hid egx
 have hxn := hx.parts.2.1
 have hxd := hx.parts.2.2
 have sx1 := sx.1
 have sx2 := sx.2
 have l1 := decS_lenP sx1
 have l2 := decS_lenP sx2
 have hK' : K ≤ 536870912 := by omega
 have htx : textQ x = (if ng x then [45] else []) ++ decS x.num.natAbs ++ (if x.den = 1 then [] else 47 :: decS x.den) := rfl
 rw [← egx] at htx
 generalize textQ x = T at *
 have hdx := x.den_pos
 have hNx : Nx ≤ 9223372036854775807 := by
  obtain ⟨ao, n, c, l, e, hsl, hcl, hvl⟩ := hxd
  cases e
  have := hsl.cap; have := hsl.max; omega
 have hN0 : 0 < Nx ↔ x.den ≠ 1 := by
  obtain ⟨ao, n, c, l, e, hsl, hcl, hvl⟩ := hxd
  cases e
  have := hcl.length_pos_iff (by omega)
  rw [hsl.len, hvl] at this
  rw [this]
  split <;> omega
 generalize x.num.natAbs = xn at *
 generalize x.den = xd at *
 have HT := Lib.hid htx
 clear htx
 clear egx
 have hs := Below.refl w.heap.size w
 cases gx
 ·clear hx
  by_cases h1 : xd = 1
  ·have hn : Nx = 0 := by omega
   subst hn
   have H1 := Lib.hid h1
   clear h1 hN0
   go_enter Tryz.func33, Tryz.ntmps33
   go_wp2_with fail
   refine Calls.abs ?_
   intro w1 hW
   have hsz := hs.size
   have hs1 : Below w.heap.size w w1 := by rw [hW]; exact (Below.alloc hs (by first | exact hs.size | (have := hs.size; simp; done) | (have := hs.size; simp; omega)) _)
   have hk : KeepD w w1 := by rw [hW]; exact ((KeepD.refl _).alloc _)
   have Bl1x : Bx w1 (w.heap.size) 35 #[.bool false, .slice ax nx cx, .slice Ax 0 Cx] := by rw [hW]; exact (Bx.new' _ _ _ _ (by first | rfl | (simp; done)))
   replace hs := hs1
   clear hs1
   have Blx := Bl1x
   clear Bl1x
   revert hxd; revert hxn; refine ke hk ?_; intro hxn hxd
   clear hW hk hsz
   have hz_w1 := Blx.lt
   refine (ln_text hxn sx1 hK').mono ?_
   rintro e w2 ⟨rfl, hb⟩
   revert hxd; revert hxn; revert Blx; refine mS hs hb ?_; clear hs hb; intro hs Blx hxn hxd
   unfold strV
   refine Blx.k3 fun B0 B1 B2 => ?_
   go_wp2
   go_ret
   refine ⟨?_, hs⟩
   rw [HT.out, if_pos H1.out]
   simp [strV]
  have hn : 0 < Nx := by omega
  rw [if_neg h1] at hxd
  have H1 := Lib.hid h1
  clear h1 hN0
  go_enter Tryz.func33, Tryz.ntmps33
  go_wp2_with fail
  refine Calls.abs ?_
  intro w1 hW
  have hsz := hs.size
  have hs1 : Below w.heap.size w w1 := by rw [hW]; exact (Below.alloc hs (by first | exact hs.size | (have := hs.size; simp; done) | (have := hs.size; simp; omega)) _)
  have hk : KeepD w w1 := by rw [hW]; exact ((KeepD.refl _).alloc _)
  have Bl1x : Bx w1 (w.heap.size) 35 #[.bool false, .slice ax nx cx, .slice Ax Nx Cx] := by rw [hW]; exact (Bx.new' _ _ _ _ (by first | rfl | (simp; done)))
  replace hs := hs1
  clear hs1
  have Blx := Bl1x
  clear Bl1x
  revert hxd; revert hxn; refine ke hk ?_; intro hxn hxd
  clear hW hk hsz
  have hz_w1 := Blx.lt
  refine (ln_text hxn sx1 hK').mono ?_
  rintro e w2 ⟨rfl, hb⟩
  revert hxd; revert hxn; revert Blx; refine mS hs hb ?_; clear hs hb; intro hs Blx hxn hxd
  unfold strV
  refine Blx.k3 fun B0 B1 B2 => ?_
  go_wp2_with fail
  clear B0 B1 B2
  refine (ln_text hxd sx2 hK').mono ?_
  rintro e w3 ⟨rfl, hb⟩
  revert hxd; revert hxn; revert Blx; refine mS hs hb ?_; clear hs hb; intro hs Blx hxn hxd
  unfold strV
  have hcat : ∀ W : World, (Op.stringOp .add ⟨#[47]⟩ ⟨(decS xd).toArray⟩).run Tryz.prog W = .ok (.string ⟨(47 :: decS xd).toArray⟩) W := fun W => cat_eq W _ [47] (decS xd) (by simp only [List.length_cons, List.length_nil]; omega)
  have hcat2 : ∀ W : World, (Op.stringOp .add ⟨(decS xn).toArray⟩ ⟨(47 :: decS xd).toArray⟩).run Tryz.prog W = .ok (.string ⟨((decS xn) ++ (47 :: decS xd)).toArray⟩) W := fun W => cat_eq W _ (decS xn) (47 :: decS xd) (by simp only [List.length_cons]; omega)
  go_wp2
  go_ret
  refine ⟨?_, hs⟩
  rw [HT.out, if_neg H1.out]
  first | (simp [strV]; done) | (simp [strV, bytes_append])
 clear hx
 by_cases h1 : xd = 1
 ·have hn : Nx = 0 := by omega
  subst hn
  have H1 := Lib.hid h1
  clear h1 hN0
  go_enter Tryz.func33, Tryz.ntmps33
  go_wp2_with fail
  refine Calls.abs ?_
  intro w1 hW
  have hsz := hs.size
  have hs1 : Below w.heap.size w w1 := by rw [hW]; exact (Below.alloc hs (by first | exact hs.size | (have := hs.size; simp; done) | (have := hs.size; simp; omega)) _)
  have hk : KeepD w w1 := by rw [hW]; exact ((KeepD.refl _).alloc _)
  have Bl1x : Bx w1 (w.heap.size) 35 #[.bool true, .slice ax nx cx, .slice Ax 0 Cx] := by rw [hW]; exact (Bx.new' _ _ _ _ (by first | rfl | (simp; done)))
  replace hs := hs1
  clear hs1
  have Blx := Bl1x
  clear Bl1x
  revert hxd; revert hxn; refine ke hk ?_; intro hxn hxd
  clear hW hk hsz
  have hz_w1 := Blx.lt
  refine (ln_text hxn sx1 hK').mono ?_
  rintro e w2 ⟨rfl, hb⟩
  revert hxd; revert hxn; revert Blx; refine mS hs hb ?_; clear hs hb; intro hs Blx hxn hxd
  unfold strV
  refine Blx.k3 fun B0 B1 B2 => ?_
  have hcat : ∀ W : World, (Op.stringOp .add ⟨#[45]⟩ ⟨(decS xn).toArray⟩).run Tryz.prog W = .ok (.string ⟨(45 :: decS xn).toArray⟩) W := fun W => cat_eq W _ [45] (decS xn) (by simp only [List.length_cons, List.length_nil]; omega)
  go_wp2
  go_ret
  refine ⟨?_, hs⟩
  rw [HT.out, if_pos H1.out]
  simp [strV]
 have hn : 0 < Nx := by omega
 rw [if_neg h1] at hxd
 have H1 := Lib.hid h1
 clear h1 hN0
 go_enter Tryz.func33, Tryz.ntmps33
 go_wp2_with fail
 refine Calls.abs ?_
 intro w1 hW
 have hsz := hs.size
 have hs1 : Below w.heap.size w w1 := by rw [hW]; exact (Below.alloc hs (by first | exact hs.size | (have := hs.size; simp; done) | (have := hs.size; simp; omega)) _)
 have hk : KeepD w w1 := by rw [hW]; exact ((KeepD.refl _).alloc _)
 have Bl1x : Bx w1 (w.heap.size) 35 #[.bool true, .slice ax nx cx, .slice Ax Nx Cx] := by rw [hW]; exact (Bx.new' _ _ _ _ (by first | rfl | (simp; done)))
 replace hs := hs1
 clear hs1
 have Blx := Bl1x
 clear Bl1x
 revert hxd; revert hxn; refine ke hk ?_; intro hxn hxd
 clear hW hk hsz
 have hz_w1 := Blx.lt
 refine (ln_text hxn sx1 hK').mono ?_
 rintro e w2 ⟨rfl, hb⟩
 revert hxd; revert hxn; revert Blx; refine mS hs hb ?_; clear hs hb; intro hs Blx hxn hxd
 unfold strV
 refine Blx.k3 fun B0 B1 B2 => ?_
 have hcat : ∀ W : World, (Op.stringOp .add ⟨#[45]⟩ ⟨(decS xn).toArray⟩).run Tryz.prog W = .ok (.string ⟨(45 :: decS xn).toArray⟩) W := fun W => cat_eq W _ [45] (decS xn) (by simp only [List.length_cons, List.length_nil]; omega)
 go_wp2_with fail
 clear B0 B1 B2 hcat
 refine (ln_text hxd sx2 hK').mono ?_
 rintro e w3 ⟨rfl, hb⟩
 revert hxd; revert hxn; revert Blx; refine mS hs hb ?_; clear hs hb; intro hs Blx hxn hxd
 unfold strV
 have hcat : ∀ W : World, (Op.stringOp .add ⟨#[47]⟩ ⟨(decS xd).toArray⟩).run Tryz.prog W = .ok (.string ⟨(47 :: decS xd).toArray⟩) W := fun W => cat_eq W _ [47] (decS xd) (by simp only [List.length_cons, List.length_nil]; omega)
 have hcat2 : ∀ W : World, (Op.stringOp .add ⟨(45 :: decS xn).toArray⟩ ⟨(47 :: decS xd).toArray⟩).run Tryz.prog W = .ok (.string ⟨((45 :: decS xn) ++ (47 :: decS xd)).toArray⟩) W := fun W => cat_eq W _ (45 :: decS xn) (47 :: decS xd) (by simp only [List.length_cons]; omega)
 go_wp2
 go_ret
 refine ⟨?_, hs⟩
 rw [HT.out, if_neg H1.out]
 first | (simp [strV]; done) | (simp [strV, bytes_append])
end Go.Proofs.YtbnomdlojmgigaaGreat
namespace Go.Proofs.YtbnomdlojmgigaaGreat
open Go.RowKit Dg
section
variable {w : World} {vx vy : Value} {x y : Rat}
theorem pAdd (hx : PV w vx x) (hy : PV w vy y) (fx : Fit x) (fy : Fit y) : Calls Tryz.prog 12 #[vx, vy] w (RetP w (x + y)) := p_Add_calls _ _ _ _ _ _ hx hy (by omega) fx.p fy.p
theorem pSub (hx : PV w vx x) (hy : PV w vy y) (fx : Fit x) (fy : Fit y) : Calls Tryz.prog 105 #[vx, vy] w (RetP w (x - y)) := p_Sub_calls _ _ _ _ _ _ hx hy (by omega) fx.p fy.p
theorem pMul (hx : PV w vx x) (hy : PV w vy y) (fx : Fit x) (fy : Fit y) : Calls Tryz.prog 13 #[vx, vy] w (RetP w (x * y)) := p_Mul_calls _ _ _ _ _ _ hx hy (by omega) fx.p fy.p
theorem pCmp (hx : PV w vx x) (hy : PV w vy y) (fx : Fit x) (fy : Fit y) : Calls Tryz.prog 14 #[vx, vy] w (RetV w (.int .i64 (sgQ (x - y)))) := p_Cmp_calls _ _ _ _ _ _ hx hy (by omega) fx.p fy.p
theorem pText (hx : PV w vx x) (fx : Fit x) : Calls Tryz.prog 33 #[vx] w (RetV w (strV (textQ x))) := p_Text_calls _ _ _ _ hx (by omega) fx.p
theorem pSign (hx : PV w vx x) : Calls Tryz.prog 47 #[vx] w (RetV w (.int .i64 (sgQ x))) := p_Sign_calls _ _ _ hx
end
theorem szQ_int {n : Int} (h : n.natAbs < 4294967296) : SzQ 1 (n : Rat) := by
  unfold SzQ
  rw [Rat.num_intCast, Rat.den_intCast]
  exact ⟨by rwa [Nat.pow_one], by decide⟩
theorem sgQ_le (x : Rat) : sgQ x ≤ 0 ↔ ¬ 0 < x := by
  unfold sgQ
  have h1 : 0 < x ↔ 0 < x.num := by
    rw [← Rat.not_le, ← Int.not_le]
    have : x ≤ 0 ↔ x.num ≤ 0 := by rw [Rat.le_iff]; simp
    rw [this]
  rw [h1]
  split
  · omega
  · split <;> omega
theorem sgQ_lt (x : Rat) : sgQ x < 0 ↔ x < 0 := by
  unfold sgQ
  have h1 : x < 0 ↔ x.num < 0 := by rw [Rat.lt_iff]; simp
  rw [h1]
  split
  · omega
  · split <;> omega
def PC (w : World) (cs : List Value) (x : Rat) : Prop := ∃ a b c, cs = [a, b, c] ∧ PV w (.agg #[a, b, c]) x
def RC (w : World) (cs : List Value) (x : Rat) : Prop := ∃ a b c, cs = [a, b, c] ∧ RV w (.agg #[a, b, c]) x
theorem PC.kept : Kept PC := fun _ _ _ _ ⟨a, b, c, e, h⟩ hk => ⟨a, b, c, e, h.keep hk⟩
theorem RC.kept : Kept RC := fun _ _ _ _ ⟨a, b, c, e, h⟩ hk => ⟨a, b, c, e, h.keep hk⟩
theorem agg3 {a b c a' b' c' : Value} (h : Value.agg #[a, b, c] = Value.agg #[a', b', c']) : a = a' ∧ b = b' ∧ c = c' := by
  injection h with h
  injection h with h
  injection h with h1 h
  injection h with h2 h
  injection h with h3 h
  exact ⟨h1, h2, h3⟩
theorem sliceE {a a' : Option Addr} {n n' c c' : Nat} (h : Value.slice a n c = .slice a' n' c') : a = a' ∧ c = c' := by
  injection h with h1 h2 h3
  exact ⟨h1, h3⟩
def BoxP (w : World) (g : Nat) (x : Rat) : Prop := ∃ s a n c A N C, Bx w g 35 #[.bool s, .slice a n c, .slice A N C] ∧ PV w (.agg #[.bool s, .slice a n c, .slice A N C]) x
theorem RV.of_eq {w : World} {v : Value} {q q' : Rat} (h : RV w v q) (e : q = q') : RV w v q' := e ▸ h
end Go.Proofs.YtbnomdlojmgigaaGreat
