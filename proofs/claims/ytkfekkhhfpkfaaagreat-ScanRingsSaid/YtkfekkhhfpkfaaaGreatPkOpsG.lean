/-
  The contracts of both sides' fractions, said of fractions that all functions bear ('Fit'); results; a fraction among the cells of a list.
-/
import Derived.Test.YtkfekkhhfpkfaaaGreatPkRatG
import Derived.Test.YtkfekkhhfpkfaaaGreatPkMemG
set_option linter.unusedSimpArgs false
set_option linter.unusedVariables false
set_option maxRecDepth 100000
namespace Go.Proofs.YtkfekkhhfpkfaaaGreat
open Go.RowKit Dg
section
variable {w : World} {vx vy : Value} {x y : Rat}
theorem pAdd (hx : PV w vx x) (hy : PV w vy y) (fx : Fit x) (fy : Fit y) : Calls Tryz.prog 54 #[vx, vy] w (RetP w (x + y)) := p_Add_calls _ _ _ _ _ _ hx hy (by omega) fx.p fy.p
theorem pSub (hx : PV w vx x) (hy : PV w vy y) (fx : Fit x) (fy : Fit y) : Calls Tryz.prog 57 #[vx, vy] w (RetP w (x - y)) := p_Sub_calls _ _ _ _ _ _ hx hy (by omega) fx.p fy.p
theorem pMul (hx : PV w vx x) (hy : PV w vy y) (fx : Fit x) (fy : Fit y) : Calls Tryz.prog 55 #[vx, vy] w (RetP w (x * y)) := p_Mul_calls _ _ _ _ _ _ hx hy (by omega) fx.p fy.p
theorem pDiv (hx : PV w vx x) (hy : PV w vy y) (fx : Fit x) (fy : Fit y) (hy0 : y ≠ 0) : Calls Tryz.prog 111 #[vx, vy] w (RetPE w (x / y) 0) := p_Div_calls _ _ _ _ _ _ hx hy (by omega) fx.p fy.p hy0
theorem pCmp (hx : PV w vx x) (hy : PV w vy y) (fx : Fit x) (fy : Fit y) : Calls Tryz.prog 18 #[vx, vy] w (RetV w (.int .i64 (sgQ (x - y)))) := p_Cmp_calls _ _ _ _ _ _ hx hy (by omega) fx.p fy.p
theorem pText (hx : PV w vx x) (fx : Fit x) : Calls Tryz.prog 50 #[vx] w (RetV w (strV (textQ x))) := p_Text_calls _ _ _ _ hx (by omega) fx.p
theorem pSign (hx : PV w vx x) : Calls Tryz.prog 79 #[vx] w (RetV w (.int .i64 (sgQ x))) := p_Sign_calls _ _ _ hx
theorem rAdd (hx : RV w vx x) (hy : RV w vy y) (fx : Fit x) (fy : Fit y) : Calls Tryz.prog 62 #[vx, vy] w (RetQ w (x + y)) := r_Add_calls _ _ _ _ _ _ hx hy (Nat.le_refl _) fx fy
theorem rSub (hx : RV w vx x) (hy : RV w vy y) (fx : Fit x) (fy : Fit y) : Calls Tryz.prog 64 #[vx, vy] w (RetQ w (x - y)) := r_Sub_calls _ _ _ _ _ _ hx hy (Nat.le_refl _) fx fy
theorem rMul (hx : RV w vx x) (hy : RV w vy y) (fx : Fit x) (fy : Fit y) : Calls Tryz.prog 63 #[vx, vy] w (RetQ w (x * y)) := r_Mul_calls _ _ _ _ _ _ hx hy (Nat.le_refl _) fx fy
theorem rDiv (hx : RV w vx x) (hy : RV w vy y) (fx : Fit x) (fy : Fit y) (hy0 : y ≠ 0) : Calls Tryz.prog 121 #[vx, vy] w (RetQE w (x / y) 0) := r_Div_calls _ _ _ _ _ _ hx hy (Nat.le_refl _) fx fy hy0
theorem rText (hx : RV w vx x) (fx : Fit x) : Calls Tryz.prog 66 #[vx] w (RetI w (strV (textQ x))) := r_Text_calls _ _ _ _ hx (Nat.le_refl _) fx
theorem rSign (hx : RV w vx x) : Calls Tryz.prog 59 #[vx] w (RetI w (.int .i64 (sgQ x))) := r_Sign_calls _ _ _ hx
end
theorem szQ_int {n : Int} (h : n.natAbs < 4294967296) : SzQ 1 (n : Rat) := by
  unfold SzQ
  rw [Rat.num_intCast, Rat.den_intCast]
  exact ⟨by rwa [Nat.pow_one], by decide⟩
theorem szQ_frac {n d : Int} (h : n.natAbs < 4294967296) (hd : d.natAbs < 4294967296) (h0 : d ≠ 0) : SzQ 1 ((n : Rat) / (d : Rat)) := by
  rw [frac_mk n d h0]
  exact mkQ_size _ _ _ (by omega) _ (by rwa [Nat.pow_one]) (by rwa [Nat.pow_one])
theorem szQ_fracQ {n d : Int} (h : n.natAbs < 4294967296) (hd : d < 4294967296) : SzQ 1 (fracQ n d) := by
  unfold fracQ
  split
  · exact szQ_int h
  · exact szQ_frac h (by omega) (by omega)
theorem sgQ_le (x : Rat) : sgQ x ≤ 0 ↔ ¬ 0 < x := by
  unfold sgQ
  have h1 : 0 < x ↔ 0 < x.num := by
    rw [← Rat.not_le, ← Int.not_le]
    have : x ≤ 0 ↔ x.num ≤ 0 := by rw [Rat.le_iff]; simp
    rw [this]
  rw [h1]
  split
  · omega
  · split <;> omega
theorem sgQ_lt (x : Rat) : sgQ x < 0 ↔ x < 0 := by
  unfold sgQ
  have h1 : x < 0 ↔ x.num < 0 := by rw [Rat.lt_iff]; simp
  rw [h1]
  split
  · omega
  · split <;> omega
def PC (w : World) (cs : List Value) (x : Rat) : Prop := ∃ a b c, cs = [a, b, c] ∧ PV w (.agg #[a, b, c]) x
def RC (w : World) (cs : List Value) (x : Rat) : Prop := ∃ a b c, cs = [a, b, c] ∧ RV w (.agg #[a, b, c]) x
theorem PC.kept : Kept PC := fun _ _ _ _ ⟨a, b, c, e, h⟩ hk => ⟨a, b, c, e, h.keep hk⟩
theorem RC.kept : Kept RC := fun _ _ _ _ ⟨a, b, c, e, h⟩ hk => ⟨a, b, c, e, h.keep hk⟩
theorem agg3 {a b c a' b' c' : Value} (h : Value.agg #[a, b, c] = Value.agg #[a', b', c']) : a = a' ∧ b = b' ∧ c = c' := by
  injection h with h
  injection h with h
  injection h with h1 h
  injection h with h2 h
  injection h with h3 h
  exact ⟨h1, h2, h3⟩
theorem sliceE {a a' : Option Addr} {n n' c c' : Nat} (h : Value.slice a n c = .slice a' n' c') : a = a' ∧ c = c' := by
  injection h with h1 h2 h3
  exact ⟨h1, h3⟩
def BoxP (w : World) (g : Nat) (x : Rat) : Prop := ∃ s a n c A N C, Bx w g 32 #[.bool s, .slice a n c, .slice A N C] ∧ PV w (.agg #[.bool s, .slice a n c, .slice A N C]) x
def BoxR (w : World) (g : Nat) (x : Rat) : Prop := ∃ s a n c A N C, Bx w g 38 #[.bool s, .slice a n c, .slice A N C] ∧ RV w (.agg #[.bool s, .slice a n c, .slice A N C]) x
theorem RV.of_eq {w : World} {v : Value} {q q' : Rat} (h : RV w v q) (e : q = q') : RV w v q' := e ▸ h
theorem load_RB {w : World} {g : Nat} {u0 u1 u2 : Value} {t : TypeId} (h : Bx w g t #[u0, u1, u2]) : (loadVar 38 ⟨g, 0, none⟩).run Tryz.prog w = .ok (.agg #[u0, u1, u2]) w := by
  have h0 := h.at 0 rfl
  have h1 := h.at 1 rfl
  have h2 := h.at 2 rfl
  simp [go_sem, h0, h1, h2]
theorem ret_RB {fn : Func} {p : Tmp} {w0 w : World} {g : Nat} {q : Rat} {v1 v2 v3 : Value} {t : TypeId} {a : Act} (hr : fn.results = #[.cell p 38]) (ha : a.tmps.getD p undef = .pointer (some ⟨g, 0, none⟩)) (hdef : a.defers = [])
    (hbox : Bx w g t #[v1, v2, v3]) (h : RV w (.agg #[v1, v2, v3]) q) (hb : Below w0.heap.size w0 w) : bodyPost Tryz.prog fn (RetQ w0 q) .ret a w :=
  bodyPost_ret (v := .agg #[v1, v2, v3]) (by rw [results_cell1 hr, ha]; exact load_RB hbox) hdef ⟨_, rfl, h, hb⟩
end Go.Proofs.YtkfekkhhfpkfaaaGreat
namespace Go.Proofs.YtkfekkhhfpkfaaaGreat
open Go.RowKit Dg
abbrev Lay := Rat × Rat × Rat
def layAt (l : List Lay) (k : Nat) : Lay := l[k]?.getD (0, 0, 0)
def tmQ (l : List Lay) : Nat → Rat
  | 0 => 0
  | k + 1 => tmQ l k + ((layAt l k).2.1 + (layAt l k).2.1) / (layAt l k).2.2
def rfQ (l : List Lay) (k : Nat) : Rat := ((layAt l (k + 1)).1 - (layAt l k).1) / ((layAt l (k + 1)).1 + (layAt l k).1)
def lfQ (l : List Lay) : Nat → Rat
  | 0 => 1
  | k + 1 => lfQ l k * (1 - rfQ l k * rfQ l k)
def echoQ (l : List Lay) (k : Nat) : List (Rat × Rat) := (List.range k).map fun i => (tmQ l (i + 1), lfQ l i * rfQ l i)
theorem echoQ_succ (l : List Lay) (k : Nat) : echoQ l (k + 1) = echoQ l k ++ [(tmQ l (k + 1), lfQ l k * rfQ l k)] := by
  unfold echoQ
  rw [List.range_succ, List.map_append]
  rfl
theorem echoQ_length (l : List Lay) (k : Nat) : (echoQ l k).length = k := by simp [echoQ]
def layPos (x : Lay) : Bool := decide (0 < x.1) && (decide (0 < x.2.1) && decide (0 < x.2.2))
def LaySz (B : Nat) (x : Lay) : Prop := SzQ B x.1 ∧ SzQ B x.2.1 ∧ SzQ B x.2.2
theorem layAt_eq {l : List Lay} {k : Nat} {x : Lay} (h : l[k]? = some x) : layAt l k = x := by unfold layAt; rw [h]; rfl
theorem szQ_one : SzQ 1 (1 : Rat) := szQ_int (n := 1) (by decide)
theorem szQ_zero : SzQ 1 (0 : Rat) := szQ_int (n := 0) (by decide)
section
variable {l : List Lay} {B : Nat} (hz : ∀ x ∈ l, LaySz B x) (hp : ∀ x ∈ l, layPos x = true)
include hz hp
theorem lay_get {k : Nat} (hk : k < l.length) : LaySz B (layAt l k) ∧ 0 < (layAt l k).1 ∧ 0 < (layAt l k).2.1 ∧ 0 < (layAt l k).2.2 := by
  have e : layAt l k = l[k] := layAt_eq (List.getElem?_eq_getElem hk)
  rw [e]
  have h1 := hz _ (List.getElem_mem hk)
  have h2 := hp _ (List.getElem_mem hk)
  simp only [layPos, Bool.and_eq_true, decide_eq_true_eq] at h2
  exact ⟨h1, h2.1, h2.2.1, h2.2.2⟩
theorem tm_sz : ∀ k, k ≤ l.length → SzQ (k * (3 * B + 2) + 1) (tmQ l k)
  | 0, _ => by rw [Nat.zero_mul]; exact szQ_zero
  | k + 1, h => by
    have ih := tm_sz k (by omega)
    obtain ⟨⟨_, h2, h3⟩, _, _, p3⟩ := lay_get hz hp (show k < l.length by omega)
    have hne : (layAt l k).2.2 ≠ 0 := fun e => by rw [e] at p3; exact Rat.lt_irrefl p3
    refine SzQ.mono (ih.add ((h2.add h2).div h3 hne)) ?_
    rw [show (k + 1) * (3 * B + 2) = k * (3 * B + 2) + (3 * B + 2) from Nat.succ_mul k _]
    generalize k * (3 * B + 2) = m
    omega
theorem rf_sz {k : Nat} (hk : k + 1 < l.length) : SzQ (4 * B + 2) (rfQ l k) ∧ SzQ (2 * B + 1) ((layAt l (k + 1)).1 - (layAt l k).1) ∧ SzQ (2 * B + 1) ((layAt l (k + 1)).1 + (layAt l k).1) ∧ (layAt l (k + 1)).1 + (layAt l k).1 ≠ 0 := by
  obtain ⟨⟨h1, _⟩, p1, _⟩ := lay_get hz hp (show k < l.length by omega)
  obtain ⟨⟨h2, _⟩, p2, _⟩ := lay_get hz hp hk
  have hne : (layAt l (k + 1)).1 + (layAt l k).1 ≠ 0 := fun e => by grind
  refine ⟨SzQ.mono ((h2.sub h1).div (h2.add h1) hne) (by omega), SzQ.mono (h2.sub h1) (by omega), SzQ.mono (h2.add h1) (by omega), hne⟩
theorem lf_sz : ∀ k, k < l.length → SzQ (k * (8 * B + 6) + 1) (lfQ l k)
  | 0, _ => by rw [Nat.zero_mul]; exact szQ_one
  | k + 1, h => by
    have ih := lf_sz k (by omega)
    have h1 := (rf_sz hz hp h).1
    refine SzQ.mono (ih.mul (szQ_one.sub (h1.mul h1))) ?_
    rw [show (k + 1) * (8 * B + 6) = k * (8 * B + 6) + (8 * B + 6) from Nat.succ_mul k _]
    generalize k * (8 * B + 6) = m
    omega
theorem echo_fits (hB : B ≤ 1000) (hl : l.length ≤ 12) {k : Nat} (hk : k + 1 < l.length) :
    (Fit (layAt l k).2.1 ∧ Fit ((layAt l k).2.1 + (layAt l k).2.1) ∧ Fit (layAt l k).2.2 ∧ (layAt l k).2.2 ≠ 0 ∧ Fit (((layAt l k).2.1 + (layAt l k).2.1) / (layAt l k).2.2) ∧ Fit (tmQ l k)) ∧
    (Fit (layAt l k).1 ∧ Fit (layAt l (k + 1)).1 ∧ Fit ((layAt l (k + 1)).1 - (layAt l k).1) ∧ Fit ((layAt l (k + 1)).1 + (layAt l k).1) ∧ (layAt l (k + 1)).1 + (layAt l k).1 ≠ 0) ∧
    (Fit (rfQ l k) ∧ Fit (lfQ l k) ∧ Fit (rfQ l k * rfQ l k) ∧ Fit (1 - rfQ l k * rfQ l k)) := by
  obtain ⟨⟨a1, a2, a3⟩, _, _, p3⟩ := lay_get hz hp (show k < l.length by omega)
  obtain ⟨⟨b1, _⟩, _⟩ := lay_get hz hp hk
  have hne : (layAt l k).2.2 ≠ 0 := fun e => by rw [e] at p3; exact Rat.lt_irrefl p3
  obtain ⟨r1, r2, r3, r4⟩ := rf_sz hz hp hk
  have t := tm_sz hz hp k (by omega)
  have f := lf_sz hz hp k (by omega)
  have hk12 : k ≤ 12 := by omega
  have m1 : k * (3 * B + 2) ≤ 12 * (3 * B + 2) := Nat.mul_le_mul_right _ hk12
  have m2 : k * (8 * B + 6) ≤ 12 * (8 * B + 6) := Nat.mul_le_mul_right _ hk12
  exact ⟨⟨a2.fit, (a2.add a2).fit, a3.fit, hne, ((a2.add a2).div a3 hne).fit, t.fit⟩, ⟨a1.fit, b1.fit, r2.fit, r3.fit, r4⟩, r1.fit, f.fit, (r1.mul r1).fit, (szQ_one.sub (r1.mul r1)).fit⟩
theorem echo_sz (hB : B ≤ 1000) (hl : l.length ≤ 12) : ∀ x ∈ echoQ l (l.length - 1), SzQ 100000 x.1 ∧ SzQ 200000 x.2 := by
  intro x hx
  unfold echoQ at hx
  obtain ⟨i, hi, rfl⟩ := List.mem_map.1 hx
  have hi := List.mem_range.1 hi
  have t := tm_sz hz hp (i + 1) (by omega)
  have f := lf_sz hz hp i (by omega)
  have r := (rf_sz hz hp (show i + 1 < l.length by omega)).1
  have m1 : (i + 1) * (3 * B + 2) ≤ 12 * (3 * B + 2) := Nat.mul_le_mul_right _ (by omega)
  have m2 : i * (8 * B + 6) ≤ 12 * (8 * B + 6) := Nat.mul_le_mul_right _ (by omega)
  exact ⟨t.mono (by omega), (f.mul r).mono (by omega)⟩
end
def C3 (R : World → List Value → Rat → Prop) (w : World) (cs : List Value) (x : Lay) : Prop := ∃ c1 c2 c3, cs = c1 ++ (c2 ++ c3) ∧ R w c1 x.1 ∧ R w c2 x.2.1 ∧ R w c3 x.2.2
def C2 (R : World → List Value → Rat → Prop) (w : World) (cs : List Value) (x : Rat × Rat) : Prop := ∃ c1 c2, cs = c1 ++ c2 ∧ R w c1 x.1 ∧ R w c2 x.2
theorem C3.kept {R : World → List Value → Rat → Prop} (hR : Kept R) : Kept (C3 R) := fun _ _ _ _ ⟨c1, c2, c3, e, h1, h2, h3⟩ hk => ⟨c1, c2, c3, e, hR _ _ _ _ h1 hk, hR _ _ _ _ h2 hk, hR _ _ _ _ h3 hk⟩
theorem C2.kept {R : World → List Value → Rat → Prop} (hR : Kept R) : Kept (C2 R) := fun _ _ _ _ ⟨c1, c2, e, h1, h2⟩ hk => ⟨c1, c2, e, hR _ _ _ _ h1 hk, hR _ _ _ _ h2 hk⟩
end Go.Proofs.YtkfekkhhfpkfaaaGreat
