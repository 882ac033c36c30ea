/-
  Fractions: plain facts on them; how the reference's lie in memory (RV). No program is in sight here.
-/
import Derived.Test.YtbnomdlojmgigaaGreatPkB0F
import Derived.Deep.AppendLies
import Derived.Handy
set_option linter.unusedSimpArgs false
set_option linter.unusedVariables false
namespace Go.Proofs.YtbnomdlojmgigaaGreat
open Go.RowKit Dg
def SzQ (K : Nat) (q : Rat) : Prop := q.num.natAbs < 4294967296 ^ K ∧ q.den < 4294967296 ^ K
theorem SzQ.mono {K L : Nat} {q : Rat} (h : SzQ K q) (hl : K ≤ L) : SzQ L q :=
  ⟨Nat.lt_of_lt_of_le h.1 (Nat.pow_le_pow_right (by omega) hl), Nat.lt_of_lt_of_le h.2 (Nat.pow_le_pow_right (by omega) hl)⟩
def ng (q : Rat) : Bool := decide (q.num < 0)
def RV (w : World) (v : Value) (q : Rat) : Prop :=
  ∃ vn vd d, v = .agg #[.bool (ng q), vn, vd] ∧ NatV .u32 4294967296 w vn q.num.natAbs ∧ NatV .u32 4294967296 w vd d ∧ (d = q.den ∨ d = 0 ∧ q.den = 1)
theorem RV.mono {w w' : World} {v : Value} {q : Rat} (h : RV w v q) (hb : Below w.heap.size w w') : RV w' v q := by
  obtain ⟨vn, vd, d, e, hn, hd, hc⟩ := h
  exact ⟨vn, vd, d, e, hn.mono hb, hd.mono hb, hc⟩
def mkQ (neg : Bool) (n d : Nat) : Rat := mkRat (if neg then -(n : Int) else n) d
theorem mkQ_zero (neg : Bool) (d : Nat) : mkQ neg 0 d = 0 := by unfold mkQ; cases neg <;> simp
theorem sgn_natAbs (neg : Bool) (n : Nat) : (if neg then -(n : Int) else n).natAbs = n := by cases neg <;> simp
theorem mkQ_num (neg : Bool) (n d : Nat) (hd : d ≠ 0) : (mkQ neg n d).num = if neg then -((n / Nat.gcd n d : Nat) : Int) else ((n / Nat.gcd n d : Nat) : Int) := by
  unfold mkQ
  rw [Rat.num_mkRat, if_neg hd, sgn_natAbs, Nat.gcd_comm d n]
  have hg : Nat.gcd n d ∣ n := Nat.gcd_dvd_left n d
  cases neg
  · simp
  · simp only [if_true]
    rw [Int.neg_ediv_of_dvd (Int.natCast_dvd_natCast.2 hg)]
    simp
theorem mkQ_natAbs (neg : Bool) (n d : Nat) (hd : d ≠ 0) : (mkQ neg n d).num.natAbs = n / Nat.gcd n d := by
  rw [mkQ_num _ _ _ hd, sgn_natAbs]
theorem mkQ_den (neg : Bool) (n d : Nat) (hd : d ≠ 0) : (mkQ neg n d).den = d / Nat.gcd n d := by
  unfold mkQ
  rw [Rat.den_mkRat, if_neg hd, sgn_natAbs, Nat.gcd_comm d n]
theorem mkQ_ng (neg : Bool) (n d : Nat) (hd : d ≠ 0) (hn : n ≠ 0) : ng (mkQ neg n d) = neg := by
  unfold ng
  rw [mkQ_num _ _ _ hd]
  have : 0 < n / Nat.gcd n d := Nat.div_pos (Nat.le_of_dvd (by omega) (Nat.gcd_dvd_left n d)) (Nat.gcd_pos_of_pos_left _ (by omega))
  generalize n / Nat.gcd n d = z at *
  cases neg
  · simp only [Bool.false_eq_true, if_false, decide_eq_false_iff_not]; omega
  · simp only [if_true, decide_eq_true_eq]; omega
theorem mkQ_size (neg : Bool) (n d : Nat) (hd : d ≠ 0) (K : Nat) (h1 : n < 4294967296 ^ K) (h2 : d < 4294967296 ^ K) : SzQ K (mkQ neg n d) := by
  refine ⟨?_, ?_⟩
  · rw [mkQ_natAbs _ _ _ hd]; exact Nat.lt_of_le_of_lt (Nat.div_le_self _ _) h1
  · rw [mkQ_den _ _ _ hd]; exact Nat.lt_of_le_of_lt (Nat.div_le_self _ _) h2
theorem num_ng (q : Rat) : q.num = if ng q then -(q.num.natAbs : Int) else q.num.natAbs := by
  unfold ng
  by_cases h : q.num < 0
  · simp only [h, decide_true, if_true]; omega
  · simp only [h, decide_false]; simp; omega
theorem add_same (x y : Rat) (h : ng x = ng y) : x + y = mkQ (ng x) (x.num.natAbs * y.den + y.num.natAbs * x.den) (x.den * y.den) := by
  rw [Rat.add_def']
  unfold mkQ
  congr 1
  have h1 := num_ng x
  have h2 := num_ng y
  rw [← h] at h2
  cases hx : ng x <;> rw [hx] at h1 h2 <;> simp only [if_true, if_false, Bool.false_eq_true] at h1 h2 ⊢ <;> rw [h1, h2] <;> simp <;> grind
theorem add_diff (x y : Rat) (h : ng x ≠ ng y) (hle : y.num.natAbs * x.den ≤ x.num.natAbs * y.den) : x + y = mkQ (ng x) (x.num.natAbs * y.den - y.num.natAbs * x.den) (x.den * y.den) := by
  rw [Rat.add_def']
  unfold mkQ
  congr 1
  have h1 := num_ng x
  have h2 := num_ng y
  have h3 : ((x.num.natAbs * y.den - y.num.natAbs * x.den : Nat) : Int) = x.num.natAbs * y.den - y.num.natAbs * x.den := by
    rw [Int.ofNat_sub hle]; simp
  rw [h3]
  cases hx : ng x <;> cases hy : ng y <;> rw [hx, hy] at h <;> simp at h <;> rw [hx] at h1 <;> rw [hy] at h2 <;> simp only [if_true, if_false, Bool.false_eq_true] at h1 h2 ⊢ <;> rw [h1, h2] <;> simp <;> grind
theorem add_diff' (x y : Rat) (h : ng x ≠ ng y) (hle : x.num.natAbs * y.den ≤ y.num.natAbs * x.den) : x + y = mkQ (ng y) (y.num.natAbs * x.den - x.num.natAbs * y.den) (x.den * y.den) := by
  rw [Rat.add_comm, add_diff y x (Ne.symm h) hle, Nat.mul_comm y.den]
theorem mul_mk (x y : Rat) : x * y = mkQ (ng x != ng y) (x.num.natAbs * y.num.natAbs) (x.den * y.den) := by
  rw [Rat.mul_def']
  unfold mkQ
  congr 1
  have h1 := num_ng x
  have h2 := num_ng y
  cases hx : ng x <;> cases hy : ng y <;> rw [hx] at h1 <;> rw [hy] at h2 <;> simp only [if_true, if_false, Bool.false_eq_true, bne_self_eq_false, Bool.true_bne, Bool.false_bne, Bool.not_true, Bool.not_false] at h1 h2 ⊢ <;> rw [h1, h2] <;> simp <;> grind
theorem div_mk (x y : Rat) (hy0 : y ≠ 0) : x / y = mkQ (ng x != ng y) (x.num.natAbs * y.den) (x.den * y.num.natAbs) := by
  have hn : y.num ≠ 0 := fun h => hy0 (Rat.num_eq_zero.1 h)
  rw [Rat.div_def, Rat.mul_def', Rat.num_inv, Rat.den_inv, if_neg hn]
  unfold mkQ
  congr 1
  have h1 := num_ng x
  have h2 := num_ng y
  have h3 : ng y = true → y.num.sign = -1 := fun h => Int.sign_eq_neg_one_of_neg (by unfold ng at h; simpa using h)
  have h4 : ng y = false → y.num.sign = 1 := fun h => Int.sign_eq_one_of_pos (by unfold ng at h; have := decide_eq_false_iff_not.1 h; omega)
  cases hx : ng x <;> cases hy : ng y <;> simp only [hx, hy, if_true, if_false, Bool.false_eq_true, bne_self_eq_false, Bool.true_bne, Bool.false_bne, Bool.not_true, Bool.not_false] at h1 h2 ⊢ <;> (first | rw [h3 hy] | rw [h4 hy]) <;> rw [h1] <;> simp <;> grind
theorem ng_neg (q : Rat) : ng (-q) = (!ng q && decide (q ≠ 0)) := by
  unfold ng
  rw [Rat.neg_num]
  have h0 : q ≠ 0 ↔ q.num ≠ 0 := not_congr Rat.num_eq_zero.symm
  rw [Bool.eq_iff_iff]
  simp only [decide_eq_true_eq, Bool.and_eq_true, Bool.not_eq_true', decide_eq_false_iff_not, h0]
  omega
theorem natAbs_zero_iff (q : Rat) : q.num.natAbs = 0 ↔ q = 0 := by
  rw [Int.natAbs_eq_zero, Rat.num_eq_zero]
theorem SzQ.add {K L : Nat} {x y : Rat} (hx : SzQ K x) (hy : SzQ L y) : SzQ (K + L + 1) (x + y) := by
  have hd : x.den * y.den ≠ 0 := Nat.mul_ne_zero x.den_nz y.den_nz
  have h1 : x.num.natAbs * y.den ≤ 4294967296 ^ K * 4294967296 ^ L := Nat.mul_le_mul (Nat.le_of_lt hx.1) (Nat.le_of_lt hy.2)
  have h2 : y.num.natAbs * x.den ≤ 4294967296 ^ L * 4294967296 ^ K := Nat.mul_le_mul (Nat.le_of_lt hy.1) (Nat.le_of_lt hx.2)
  have h3 : x.den * y.den ≤ 4294967296 ^ K * 4294967296 ^ L := Nat.mul_le_mul (Nat.le_of_lt hx.2) (Nat.le_of_lt hy.2)
  have h4 : 0 < 4294967296 ^ K * 4294967296 ^ L := Nat.mul_pos (Nat.pow_pos (by omega)) (Nat.pow_pos (by omega))
  rw [Nat.mul_comm (4294967296 ^ L)] at h2
  have e : 4294967296 ^ (K + L + 1) = 4294967296 ^ K * 4294967296 ^ L * 4294967296 := by rw [Nat.pow_succ, Nat.pow_add]
  generalize 4294967296 ^ K * 4294967296 ^ L = P at *
  by_cases h : ng x = ng y
  · rw [add_same x y h]
    exact mkQ_size _ _ _ hd _ (by omega) (by omega)
  · by_cases hle : y.num.natAbs * x.den ≤ x.num.natAbs * y.den
    · rw [add_diff x y h hle]
      exact mkQ_size _ _ _ hd _ (by omega) (by omega)
    · rw [add_diff' x y h (by omega)]
      exact mkQ_size _ _ _ hd _ (by omega) (by omega)
theorem pow_mul_lt {K L a b : Nat} (ha : a < 4294967296 ^ K) (hb : b < 4294967296 ^ L) : a * b < 4294967296 ^ (K + L) := by
  rw [Nat.pow_add]
  rcases Nat.eq_zero_or_pos b with h | h
  · subst h; exact Nat.mul_pos (Nat.pow_pos (by omega)) (Nat.pow_pos (by omega))
  · exact Nat.lt_of_lt_of_le (Nat.mul_lt_mul_of_pos_right ha h) (Nat.mul_le_mul_left _ (Nat.le_of_lt hb))
theorem SzQ.mul {K L : Nat} {x y : Rat} (hx : SzQ K x) (hy : SzQ L y) : SzQ (K + L) (x * y) := by
  rw [mul_mk]
  exact mkQ_size _ _ _ (Nat.mul_ne_zero x.den_nz y.den_nz) _ (pow_mul_lt hx.1 hy.1) (pow_mul_lt hx.2 hy.2)
theorem SzQ.div {K L : Nat} {x y : Rat} (hx : SzQ K x) (hy : SzQ L y) (hy0 : y ≠ 0) : SzQ (K + L) (x / y) := by
  rw [div_mk x y hy0]
  have : y.num.natAbs ≠ 0 := fun h => hy0 ((natAbs_zero_iff y).1 h)
  exact mkQ_size _ _ _ (Nat.mul_ne_zero x.den_nz this) _ (pow_mul_lt hx.1 hy.2) (pow_mul_lt hx.2 hy.1)
theorem SzQ.neg {K : Nat} {x : Rat} (hx : SzQ K x) : SzQ K (-x) := by
  unfold SzQ at *
  rw [Rat.neg_num, Rat.neg_den, Int.natAbs_neg]
  exact hx
theorem SzQ.sub {K L : Nat} {x y : Rat} (hx : SzQ K x) (hy : SzQ L y) : SzQ (K + L + 1) (x - y) := by
  rw [Rat.sub_eq_add_neg]
  exact hx.add hy.neg
end Go.Proofs.YtbnomdlojmgigaaGreat
namespace Go.Proofs.YtbnomdlojmgigaaGreat
open Go.RowKit Dg
structure Only (g : Nat) (w w' : World) : Prop where
  os : w'.os = w.os
  tape : w'.tape = w.tape
  output : w'.output = w.output
  size : w.heap.size ≤ w'.heap.size
  block : ∀ k, k < w.heap.size → k ≠ g → w'.heap[k]? = w.heap[k]?
theorem Only.refl (g : Nat) (w : World) : Only g w w := ⟨rfl, rfl, rfl, Nat.le_refl _, fun _ _ _ => rfl⟩
theorem Only.trans {g : Nat} {a b c : World} (h : Only g a b) (k : Only g b c) : Only g a c :=
  ⟨k.os.trans h.os, k.tape.trans h.tape, k.output.trans h.output, Nat.le_trans h.size k.size, fun i hi hg => (k.block i (Nat.lt_of_lt_of_le hi h.size) hg).trans (h.block i hi hg)⟩
theorem Only.of_below {g : Nat} {w w' : World} (h : Below w.heap.size w w') : Only g w w' := ⟨h.os, h.tape, h.output, h.size, fun k hk _ => h.block k hk⟩
theorem Only.setCell {g : Nat} {a w : World} (h : Only g a w) (j : Nat) (u : Value) : Only g a (w.setCell ⟨g, j, none⟩ u) :=
  h.trans ⟨rfl, rfl, rfl, by simp [World.setCell], fun k _ hg => Below.heap_setCell _ _ _ _ hg⟩
theorem Only.below {g B : Nat} {w w' : World} (h : Only g w w') (hB : B ≤ g) (hB' : B ≤ w.heap.size) : Below B w w' := ⟨h.os, h.tape, h.output, h.size, fun k hk => h.block k (by omega) (by omega)⟩
theorem Only.drawN {g : Nat} {a w : World} (h : Only g a w) (n : Nat) : Only g a (w.drewN n) := ⟨h.os, h.tape, h.output, h.size, h.block⟩
theorem Only.drew {g : Nat} {a w : World} (h : Only g a w) : Only g a w.drew := ⟨h.os, h.tape, h.output, h.size, h.block⟩
theorem cell_only {g : Nat} {w w' : World} (h : Only g w w') {p : Addr} (hp : p.block < w.heap.size) (hg : p.block ≠ g) : w'.cell? p = w.cell? p := World.cell?_of_block (w := w) (h.block p.block hp hg)
theorem Sl.only {k : IntKind} {w w' : World} {ao : Option Addr} {n c : Nat} {l : List Nat} (h : Sl k w ao n c l) {g : Nat} (ha : Away g (.slice ao n c)) (ho : Only g w w') : Sl k w' ao n c l := by
  refine ⟨h.len, h.cap, h.max, ?_, h.nil, fun a e hn => ?_⟩
  rotate_left
  · obtain ⟨cs, fr, h1⟩ := h.ty a e hn
    exact ⟨cs, fr, (ho.block a.block (lt_of_block h1) (ha a n c (by rw [e]) hn)).trans h1⟩
  intro i hi
  obtain ⟨b, o, e, hc⟩ := h.cells i hi
  refine ⟨b, o, e, fun j hj => ?_⟩
  have h1 := hc j hj
  have h2 := cell_lt h1
  subst e
  have h3 := ha ⟨b, o, none⟩ n c rfl (by have := h.len; omega)
  rw [cell_only ho (p := ⟨b, o + j, none⟩) h2 h3]
  exact h1
theorem NatV.only {k : IntKind} {B : Nat} {w w' : World} {v : Value} {x : Nat} (h : NatV k B w v x) {g : Nat} (ha : Away g v) (ho : Only g w w') : NatV k B w' v x := by
  obtain ⟨ao, n, c, l, e, hs, hc, hv⟩ := h
  subst e
  exact ⟨ao, n, c, l, rfl, hs.only ha ho, hc, hv⟩
theorem Blk.only {k : IntKind} {e : TypeId} {w w' : World} {g g' : Nat} {l : List Nat} (h : Blk k e w g l) (ho : Only g' w w') (hg : g ≠ g') : Blk k e w' g l := (ho.block g h.lt hg).trans h
def BlkC (k : IntKind) (e : TypeId) (w : World) (g : Nat) (l : List Nat) (r : List Value) : Prop := w.heap[g]? = some (.cells ((l.map fun x : Nat => Value.int k (x : Int)) ++ r).toArray e (0, 0))
theorem BlkC.lt {k : IntKind} {e : TypeId} {w : World} {g : Nat} {l : List Nat} {r : List Value} (h : BlkC k e w g l r) : g < w.heap.size := lt_of_block h
theorem BlkC.cell {k : IntKind} {e : TypeId} {w : World} {g : Nat} {l : List Nat} {r : List Value} (h : BlkC k e w g l r) {j : Nat} (hj : j < l.length) :
    w.cell? ⟨g, j, none⟩ = some (.int k ((l[j]?.getD 0 : Nat) : Int)) := by
  unfold BlkC at h
  simp only [World.cell?, h]
  simp [List.getElem?_append_left, hj]
theorem BlkC.free {k : IntKind} {e : TypeId} {w : World} {g : Nat} {l : List Nat} {r : List Value} (h : BlkC k e w g l r) (j : Nat) : w.frozen? ⟨g, j, none⟩ = false := by
  unfold BlkC at h
  simp [World.frozen?, h]
theorem BlkC.set {k : IntKind} {e : TypeId} {w : World} {g : Nat} {l : List Nat} {r : List Value} (h : BlkC k e w g l r) (j x : Nat) (hj : j < l.length) : BlkC k e (w.setCell ⟨g, j, none⟩ (.int k (x : Int))) g (l.set j x) r := by
  unfold BlkC at h ⊢
  simp only [World.setCell, Array.getElem?_modify, ↓reduceIte, h, Option.map_some]
  congr 2
  apply Array.ext'
  simp [List.set_append, hj, List.map_set]
theorem BlkC.below {k : IntKind} {e : TypeId} {w w' : World} {g : Nat} {l : List Nat} {r : List Value} (h : BlkC k e w g l r) (hb : Below w.heap.size w w') : BlkC k e w' g l r := (hb.block g h.lt).trans h
theorem BlkC.only {k : IntKind} {e : TypeId} {w w' : World} {g g' : Nat} {l : List Nat} {r : List Value} (h : BlkC k e w g l r) (hb : Only g' w w') (hg : g ≠ g') : BlkC k e w' g l r := (hb.block g h.lt hg).trans h
theorem BlkC.drewN {k : IntKind} {e : TypeId} {w : World} {g : Nat} {l : List Nat} {r : List Value} (h : BlkC k e w g l r) (q : Nat) : BlkC k e (w.drewN q) g l r := h
theorem BlkC.sl {k : IntKind} {e : TypeId} {w : World} {g : Nat} {A o C : List Nat} {r : List Value} (h : BlkC k e w g (A ++ o ++ C) r) (c : Nat) (hc : o.length ≤ c) (hm : c ≤ 9223372036854775807) (he : e = tyOf k := by rfl) :
    Sl k w (some ⟨g, A.length, none⟩) o.length c o :=
  ⟨rfl, hc, hm, fun i _ => ⟨g, A.length, rfl, fun j hj => by
    rw [h.cell (by simp; omega)]
    rw [List.append_assoc, List.getElem?_append_right (by omega), List.getElem?_append_left (by omega)]
    simp⟩, (fun e => by cases e), (fun a e' _ => by cases e'; exact ⟨_, _, he ▸ h⟩)⟩
theorem set_mid (A o C : List Nat) (j x : Nat) (hj : j < o.length) : (A ++ o ++ C).set (A.length + j) x = A ++ o.set j x ++ C := by
  rw [List.append_assoc, List.set_append, if_neg (by omega), List.set_append, if_pos (by omega), List.append_assoc]
  congr 3
  omega
theorem get_mid (A o C : List Nat) (j : Nat) (hj : j < o.length) : (A ++ o ++ C)[A.length + j]?.getD 0 = o[j]?.getD 0 := by
  rw [List.append_assoc, List.getElem?_append_right (by omega), List.getElem?_append_left (by omega)]
  simp
theorem BlkC.of_owns {k : IntKind} {e : TypeId} {w : World} {base : Nat} {v : Value} {n : Nat} {l : List Nat} (h : w.ownsRow base e 1 v n (l.map fun x : Nat => Value.int k (x : Int))) (hv : v ≠ .slice none 0 0 ∨ 0 < n) :
    ∃ g c r, v = .slice (some ⟨g, 0, none⟩) n c ∧ base ≤ g ∧ BlkC k e w g l r ∧ n ≤ c ∧ c ≤ 9223372036854775807 ∧ l.length = n := by
  have hl := h.1
  rw [List.length_map, Nat.mul_one] at hl
  rcases h.2 with ⟨rfl, rfl⟩ | ⟨g, cap, cur, rfl, hg, hh, hn, hcap, hsz, htk⟩
  · rcases hv with hv | hv
    · exact absurd rfl hv
    · omega
  · refine ⟨g, cap, cur.toList.drop n, rfl, hg, ?_, hn, by simpa [maxLen] using hcap, hl⟩
    unfold BlkC
    rw [Nat.mul_one] at htk
    rw [hh, ← htk, List.take_append_drop]
end Go.Proofs.YtbnomdlojmgigaaGreat
namespace Go.Proofs.YtbnomdlojmgigaaGreat
open Go.RowKit Dg
def TyB (t : TypeId) (w : World) (g : Nat) : Prop := ∃ cs fr, w.heap[g]? = some (.cells cs t fr)
theorem TyB.lt {t : TypeId} {w : World} {g : Nat} (h : TyB t w g) : g < w.heap.size := by
  obtain ⟨cs, fr, h⟩ := h
  exact lt_of_block h
theorem TyB.mono {t : TypeId} {w w' : World} {g : Nat} (h : TyB t w g) (hb : Below w.heap.size w w') : TyB t w' g := by
  obtain ⟨cs, fr, h1⟩ := h
  exact ⟨cs, fr, (hb.block g (lt_of_block h1)).trans h1⟩
theorem TyB.store {t : TypeId} {w : World} {g : Nat} (h : TyB t w g) (p : Addr) (v : Value) : TyB t (w.setCell p v) g := by
  obtain ⟨cs, fr, h1⟩ := h
  exact Lies.store (n := 1) (ao := some ⟨g, 0, none⟩) (fun a e _ => by cases e; exact ⟨cs, fr, h1⟩) p v _ rfl (by omega)
theorem TyB.new (t : TypeId) (w : World) (cs : Array Value) : TyB t (w.alloc (.cells cs t)) w.heap.size := ⟨cs, (0, 0), heap_alloc_new w _⟩
theorem TyB.ne {t t' : TypeId} {w : World} {g g' : Nat} (h : TyB t w g) (h' : TyB t' w g') (hne : t ≠ t') : g ≠ g' := by
  rintro rfl
  obtain ⟨cs, fr, h⟩ := h
  obtain ⟨cs', fr', h'⟩ := h'
  rw [h] at h'
  injection h' with h'
  injection h' with _ ht
  exact hne ht
theorem Lies.ne {t T : TypeId} {w : World} {ao : Option Addr} {n g : Nat} (h : Lies t w ao n) (hg : TyB T w g) (hne : T ≠ t) {a : Addr} (e : ao = some a) (hn : 0 < n) : a.block ≠ g := by
  obtain ⟨cs, fr, h1⟩ := h a e hn
  exact TyB.ne ⟨cs, fr, h1⟩ hg (Ne.symm hne)
structure OnlyT (T : TypeId) (w w' : World) : Prop where
  size : w.heap.size ≤ w'.heap.size
  block : ∀ k, k < w.heap.size → ¬ TyB T w k → w'.heap[k]? = w.heap[k]?
theorem OnlyT.refl (T : TypeId) (w : World) : OnlyT T w w := ⟨Nat.le_refl _, fun _ _ _ => rfl⟩
theorem OnlyT.store {T : TypeId} {w : World} {g : Nat} (hg : TyB T w g) (j : Nat) (u : Value) : OnlyT T w (w.setCell ⟨g, j, none⟩ u) :=
  ⟨by simp [World.setCell], fun k _ hn => Below.heap_setCell _ _ _ _ (fun e => hn (by subst e; exact hg))⟩
theorem OnlyT.cell {T : TypeId} {w w' : World} (h : OnlyT T w w') {a : Addr} {v : Value} (hc : w.cell? a = some v) (hn : ¬ TyB T w a.block) : w'.cell? a = some v :=
  (World.cell?_of_block (h.block a.block (cell_lt hc) hn)).trans hc
theorem OnlyT.ty {T t : TypeId} {w w' : World} (h : OnlyT T w w') {g : Nat} (hg : TyB t w g) (hne : T ≠ t) : TyB t w' g := by
  have hlt := hg.lt
  obtain ⟨cs, fr, h1⟩ := id hg
  exact ⟨cs, fr, (h.block g hlt (fun hT => (TyB.ne hT hg hne) rfl)).trans h1⟩
theorem OnlyT.of_below {T : TypeId} {w w' : World} (h : Below w.heap.size w w') : OnlyT T w w' := ⟨h.size, fun k hk _ => h.block k hk⟩
theorem OnlyT.trans {T : TypeId} {a b c : World} (h : OnlyT T a b) (h' : OnlyT T b c) : OnlyT T a c :=
  ⟨Nat.le_trans h.size h'.size, fun k hk hn => (h'.block k (Nat.lt_of_lt_of_le hk h.size) (fun hT => hn (by
    obtain ⟨cs, fr, h1⟩ := hT
    exact Classical.byContradiction fun hc => hc ⟨cs, fr, (h.block k hk hc).symm.trans h1⟩))).trans (h.block k hk hn)⟩
theorem OnlyT.set {T : TypeId} {a w : World} {g : Nat} (h : OnlyT T a w) (hg : TyB T w g) (j : Nat) (u : Value) : OnlyT T a (w.setCell ⟨g, j, none⟩ u) := h.trans (.store hg j u)
theorem OnlyT.alloc {T : TypeId} {a w : World} (h : OnlyT T a w) (o : Obj) : OnlyT T a (w.alloc o) := h.trans (.of_below ((Below.refl _ _).alloc (Nat.le_refl _) o))
theorem OnlyT.drew {T : TypeId} {a w : World} (h : OnlyT T a w) : OnlyT T a w.drew := h.trans (.of_below (Below.refl _ _).drew)
theorem Sl.onlyT {k : IntKind} {T : TypeId} {w w' : World} {ao : Option Addr} {n c : Nat} {l : List Nat} (h : Sl k w ao n c l) (ho : OnlyT T w w') (hne : T ≠ tyOf k) : Sl k w' ao n c l := by
  refine ⟨h.len, h.cap, h.max, ?_, h.nil, fun a e hn => ?_⟩
  · intro i hi
    obtain ⟨b, o, e, hc⟩ := h.cells i hi
    refine ⟨b, o, e, fun j hj => ho.cell (hc j hj) (fun hT => ?_)⟩
    exact h.ty.ne hT hne e (by have := h.len; omega) rfl
  · exact ho.ty (h.ty a e hn) hne
theorem NatV.onlyT {k : IntKind} {B : Nat} {T : TypeId} {w w' : World} {v : Value} {x : Nat} (h : NatV k B w v x) (ho : OnlyT T w w') (hne : T ≠ tyOf k) : NatV k B w' v x := by
  obtain ⟨ao, n, c, l, e, hs, hc, hv⟩ := h
  exact ⟨ao, n, c, l, e, hs.onlyT ho hne, hc, hv⟩
section
variable {w w' : World} {base : Nat} {e : TypeId} {size : Nat} {v : Value} {n : Nat} {xs : List Value}
theorem grown_of_below (h : Below w.heap.size w w') (row : Option Nat) : w.grownBy w' row := ⟨h.os, h.tape, h.output, h.size, fun i hi _ => h.block i hi⟩
theorem owns_below (h : w.ownsRow base e size v n xs) (hb : Below w.heap.size w w') : w'.ownsRow base e size v n xs :=
  h.kept (grown_of_below hb none) (by cases v.ownBlock <;> simp)
theorem owns_ty (h : w.ownsRow base e size v n xs) {g : Nat} (hg : v.ownBlock = some g) : TyB e w g := by
  rcases h.2 with ⟨rfl, _⟩ | ⟨g', cap, cur, rfl, _, hgg, _⟩
  · simp [Value.ownBlock] at hg
  · simp [Value.ownBlock] at hg
    subst hg
    exact ⟨_, _, hgg⟩
theorem owns_onlyT (h : w.ownsRow base e size v n xs) (hg : w.grownBy w' v.ownBlock) : OnlyT e w w' :=
  ⟨hg.size, fun k hk hn => hg.block k hk (fun he => hn (owns_ty h he.symm))⟩
theorem owns_belowB {w0 : World} (h : w.ownsRow base e size v n xs) (hg : w.grownBy w' v.ownBlock) (hb : Below base w0 w) (hB : base ≤ w.heap.size) : Below base w0 w' :=
  hb.grown hg hB (fun k hk => (h.lt k hk).1)
theorem owns_other {e' : TypeId} {base' size' n' : Nat} {v' : Value} {xs' : List Value} (h : w.ownsRow base' e' size' v' n' xs') (ho : OnlyT e w w') (hne : e ≠ e') : w'.ownsRow base' e' size' v' n' xs' := by
  refine ⟨h.1, ?_⟩
  rcases h.2 with hn | ⟨g, cap, cur, rfl, hb, hgg, rest⟩
  · exact .inl hn
  · exact .inr ⟨g, cap, cur, rfl, hb, (ho.block g (lt_of_block hgg) (fun hT => (TyB.ne hT ⟨_, _, hgg⟩ hne) rfl)).trans hgg, rest⟩
theorem owns_slice (h : w.ownsRow base e size v n xs) : ∃ ao c, v = .slice ao n c ∧ n ≤ c ∧ c ≤ 9223372036854775807 ∧ (ao = none → c = 0) := by
  rcases h.2 with ⟨rfl, rfl⟩ | ⟨g, cap, cur, rfl, _, _, hn, hcap, _⟩
  · exact ⟨_, _, rfl, Nat.le_refl _, by omega, fun _ => rfl⟩
  · exact ⟨_, _, rfl, hn, by simpa [maxLen] using hcap, fun e => by cases e⟩
end
theorem news_new (w : World) (cs : List Value) (t : TypeId) : ∀ j u, cs[j]? = some u → (w.alloc (.cells cs.toArray t)).cell? ((⟨w.heap.size, 0, none⟩ : Addr).add j) = some u := by
  intro j u hu
  rw [add_plain, World.cell?_alloc_at _ _ _ _ rfl]
  simpa using hu
end Go.Proofs.YtbnomdlojmgigaaGreat
namespace Go.Proofs.YtbnomdlojmgigaaGreat
open Go.RowKit Dg
theorem Calls.abs {P : Program} {f : FuncId} {args : Array Value} {w : World} {R : Ending → World → Prop} (h : ∀ w', w' = w → Calls P f args w' R) : Calls P f args w R := h w rfl
theorem Code.abs {P : Program} {c : Code} {Q : Exit → Act → World → Prop} {a : Act} {w : World} (h : ∀ w', w' = w → c.wp P Q a w') : c.wp P Q a w := h w rfl
theorem bodyPost.abs {P : Program} {fn : Func} {R : Ending → World → Prop} {e : Exit} {a : Act} {w : World} (h : ∀ w', w' = w → bodyPost P fn R e a w') : bodyPost P fn R e a w := h w rfl
theorem wpList.abs {P : Program} {ops : Array Oper} {Q : Exit → Act → World → Prop} {l : List Oper} {a : Act} {w : World} (h : ∀ w', w' = w → wpList P ops Q l a w') : wpList P ops Q l a w := h w rfl
def Bx (w : World) (g : Nat) (t : TypeId) (cs : Array Value) : Prop := w.heap[g]? = some (.cells cs t (0, 0))
section
variable {w w' : World} {g : Nat} {t : TypeId} {cs : Array Value}
theorem Bx.lt (h : Bx w g t cs) : g < w.heap.size := lt_of_block h
theorem Bx.ty (h : Bx w g t cs) : TyB t w g := ⟨cs, (0, 0), h⟩
theorem Bx.at (h : Bx w g t cs) (i : Nat) {v : Value} (hv : cs[i]? = some v) : w.cell? ⟨g, i, none⟩ = some v := by rw [cell_of_row w g i cs t (0, 0) h]; exact hv
theorem Bx.news {l : List Value} (h : Bx w g t l.toArray) : ∀ j u, l[j]? = some u → w.cell? ((⟨g, 0, none⟩ : Addr).add j) = some u := fun j u hu => by
  rw [add_plain, Nat.zero_add]; exact h.at j (by simpa using hu)
theorem Bx.free (h : Bx w g t cs) (i : Nat) : w.frozen? ⟨g, i, none⟩ = false := by
  unfold Bx at h
  simp [World.frozen?, h]
theorem Bx.new (w : World) (t : TypeId) (cs : Array Value) : Bx (w.alloc (.cells cs t)) w.heap.size t cs := heap_alloc_new w _
theorem Bx.new' (w : World) (t : TypeId) (cs : Array Value) (g : Nat) (hg : g = w.heap.size) : Bx (w.alloc (.cells cs t)) g t cs := by subst hg; exact heap_alloc_new w _
theorem Bx.drew (h : Bx w g t cs) : Bx w.drew g t cs := h
theorem Bx.drewN (h : Bx w g t cs) (n : Nat) : Bx (w.drewN n) g t cs := h
theorem Bx.alloc (h : Bx w g t cs) (o : Obj) : Bx (w.alloc o) g t cs := (Below.heap_alloc w o g h.lt).trans h
theorem Bx.set (h : Bx w g t cs) (i : Nat) (u : Value) {cs' : Array Value} (hc : cs.setIfInBounds i u = cs') : Bx (w.setCell ⟨g, i, none⟩ u) g t cs' := by
  subst hc
  unfold Bx at h ⊢
  simp [World.setCell, Array.getElem?_modify, h]
theorem Bx.far (h : Bx w g t cs) {p : Addr} (hp : g ≠ p.block) (u : Value) : Bx (w.setCell p u) g t cs := (Below.heap_setCell w p u g hp).trans h
theorem Bx.mono (h : Bx w g t cs) (hb : Below w.heap.size w w') : Bx w' g t cs := (hb.block g h.lt).trans h
theorem Bx.grown {row : Option Nat} (h : Bx w g t cs) (hb : w.grownBy w' row) (hg : some g ≠ row) : Bx w' g t cs := (hb.block g h.lt hg).trans h
theorem Bx.only {T : TypeId} (h : Bx w g t cs) (ho : OnlyT T w w') (hne : T ≠ t) : Bx w' g t cs := (ho.block g h.lt (fun hT => (TyB.ne hT h.ty hne) rfl)).trans h
end
structure KeepD (w w' : World) : Prop where
  size : w.heap.size ≤ w'.heap.size
  block : ∀ k t, TyB t w k → (t = 108 ∨ t = 150) → w'.heap[k]? = w.heap[k]?
theorem KeepD.refl (w : World) : KeepD w w := ⟨Nat.le_refl _, fun _ _ _ _ => rfl⟩
theorem KeepD.ty {w w' : World} (h : KeepD w w') {k : Nat} {t : TypeId} (hk : TyB t w k) (ht : t = 108 ∨ t = 150) : TyB t w' k := by
  obtain ⟨cs, fr, h1⟩ := id hk
  exact ⟨cs, fr, (h.block k t hk ht).trans h1⟩
theorem KeepD.trans {a b c : World} (h : KeepD a b) (h' : KeepD b c) : KeepD a c :=
  ⟨Nat.le_trans h.size h'.size, fun k t hk ht => (h'.block k t (h.ty hk ht) ht).trans (h.block k t hk ht)⟩
theorem KeepD.of_below {w w' : World} (h : Below w.heap.size w w') : KeepD w w' := ⟨h.size, fun k _ hk _ => h.block k hk.lt⟩
theorem KeepD.below {a w w' : World} (h : KeepD a w) (hb : Below w.heap.size w w') : KeepD a w' := h.trans (.of_below hb)
theorem KeepD.alloc {a w : World} (h : KeepD a w) (o : Obj) : KeepD a (w.alloc o) := h.below ((Below.refl _ _).alloc (Nat.le_refl _) o)
theorem KeepD.drew {a w : World} (h : KeepD a w) : KeepD a w.drew := h.below (Below.refl _ _).drew
theorem KeepD.drewN {a w : World} (h : KeepD a w) (n : Nat) : KeepD a (w.drewN n) := h.below (belowN (Below.refl _ _) n)
theorem KeepD.of_only {w w' : World} {T : TypeId} (h : OnlyT T w w') (hT : T ≠ 108 ∧ T ≠ 150) : KeepD w w' :=
  ⟨h.size, fun k t hk ht => h.block k hk.lt (fun hT' => by
    rcases ht with rfl | rfl
    · exact TyB.ne hT' hk hT.1 rfl
    · exact TyB.ne hT' hk hT.2 rfl)⟩
theorem KeepD.set {a w : World} {g : Nat} {T : TypeId} (h : KeepD a w) (hg : TyB T w g) (hT : T ≠ 108 ∧ T ≠ 150) (j : Nat) (u : Value) : KeepD a (w.setCell ⟨g, j, none⟩ u) :=
  h.trans (.of_only (OnlyT.store hg j u) hT)
theorem KeepD.owns {w w' : World} {base : Nat} {e : TypeId} {size : Nat} {v : Value} {n : Nat} {xs : List Value} (h : w.ownsRow base e size v n xs) (hg : w.grownBy w' v.ownBlock) (he : e ≠ 108 ∧ e ≠ 150) : KeepD w w' :=
  .of_only (owns_onlyT h hg) he
theorem TyB.alloc {t : TypeId} {w : World} {g : Nat} (h : TyB t w g) (o : Obj) : TyB t (w.alloc o) g := h.mono ((Below.refl _ _).alloc (Nat.le_refl _) o)
theorem TyB.drew {t : TypeId} {w : World} {g : Nat} (h : TyB t w g) : TyB t w.drew g := h
theorem NatV.keep {k : IntKind} {B : Nat} {w w' : World} {v : Value} {x : Nat} (h : NatV k B w v x) (hk : KeepD w w') (ht : tyOf k = 108 ∨ tyOf k = 150 := by first | exact .inl rfl | exact .inr rfl) : NatV k B w' v x := by
  obtain ⟨ao, n, c, l, e, hs, hc, hv⟩ := h
  refine ⟨ao, n, c, l, e, ⟨hs.len, hs.cap, hs.max, ?_, hs.nil, fun a e' hn => hk.ty (hs.ty a e' hn) ht⟩, hc, hv⟩
  intro i hi
  obtain ⟨b, o, e', hcl⟩ := hs.cells i hi
  refine ⟨b, o, e', fun j hj => ?_⟩
  have h1 := hcl j hj
  exact (World.cell?_of_block (hk.block b _ (hs.ty _ e' (by have := hs.len; omega)) ht)).trans h1
def PV (w : World) (v : Value) (q : Rat) : Prop :=
  ∃ vn vd, v = .agg #[.bool (ng q), vn, vd] ∧ NatV .u64 18446744073709551616 w vn q.num.natAbs ∧ NatV .u64 18446744073709551616 w vd (if q.den = 1 then 0 else q.den)
theorem PV.mono {w w' : World} {v : Value} {q : Rat} (h : PV w v q) (hb : Below w.heap.size w w') : PV w' v q := by
  obtain ⟨vn, vd, e, h1, h2⟩ := h
  exact ⟨vn, vd, e, h1.mono hb, h2.mono hb⟩
theorem PV.keep {w w' : World} {v : Value} {q : Rat} (h : PV w v q) (hk : KeepD w w') : PV w' v q := by
  obtain ⟨vn, vd, e, h1, h2⟩ := h
  exact ⟨vn, vd, e, h1.keep hk (.inl rfl), h2.keep hk (.inl rfl)⟩
theorem RV.keep {w w' : World} {v : Value} {q : Rat} (h : RV w v q) (hk : KeepD w w') : RV w' v q := by
  obtain ⟨vn, vd, d, e, h1, h2, h3⟩ := h
  exact ⟨vn, vd, d, e, h1.keep hk (.inr rfl), h2.keep hk (.inr rfl), h3⟩
theorem PV.shape {w : World} {v : Value} {q : Rat} (h : PV w v q) : ∃ s a1 n1 c1 a2 n2 c2, v = .agg #[.bool s, .slice a1 n1 c1, .slice a2 n2 c2] := by
  obtain ⟨vn, vd, e, ⟨a1, n1, c1, l1, rfl, _⟩, ⟨a2, n2, c2, l2, rfl, _⟩⟩ := h
  exact ⟨_, _, _, _, _, _, _, e⟩
theorem RV.shape {w : World} {v : Value} {q : Rat} (h : RV w v q) : ∃ s a1 n1 c1 a2 n2 c2, v = .agg #[.bool s, .slice a1 n1 c1, .slice a2 n2 c2] := by
  obtain ⟨vn, vd, d, e, ⟨a1, n1, c1, l1, rfl, _⟩, ⟨a2, n2, c2, l2, rfl, _⟩, _⟩ := h
  exact ⟨_, _, _, _, _, _, _, e⟩
theorem NatV.shape {k : IntKind} {B : Nat} {w : World} {v : Value} {x : Nat} (h : NatV k B w v x) : ∃ a n c, v = .slice a n c := by
  obtain ⟨a, n, c, l, e, _⟩ := h
  exact ⟨_, _, _, e⟩
theorem PV.parts {w : World} {q : Rat} {s v1 v2 : Value} (h : PV w (.agg #[s, v1, v2]) q) : s = .bool (ng q) ∧ NatV .u64 18446744073709551616 w v1 q.num.natAbs ∧ NatV .u64 18446744073709551616 w v2 (if q.den = 1 then 0 else q.den) := by
  obtain ⟨vn, vd, e, h1, h2⟩ := h
  injection e with e
  injection e with e
  injection e with e1 e
  injection e with e2 e
  injection e with e3 e
  subst e1 e2 e3
  exact ⟨rfl, h1, h2⟩
theorem PV.sign {w : World} {q : Rat} {s : Bool} {v1 v2 : Value} (h : PV w (.agg #[.bool s, v1, v2]) q) : s = ng q := by
  have := h.parts.1
  injection this
theorem PV.mk' {w : World} {q : Rat} {b : Bool} {v1 v2 : Value} {n d : Nat} (h1 : NatV .u64 18446744073709551616 w v1 n) (h2 : NatV .u64 18446744073709551616 w v2 d) (hb : b = ng q) (hn : n = q.num.natAbs) (hd : d = if q.den = 1 then 0 else q.den) : PV w (.agg #[.bool b, v1, v2]) q := by
  subst hb hn hd
  exact ⟨v1, v2, rfl, h1, h2⟩
def Ret1 (R : World → Value → Prop) (w : World) (e : Ending) (w' : World) : Prop := ∃ v, e = .returned v ∧ R w' v ∧ Below w.heap.size w w'
def Ret2 (R1 R2 : World → Value → Prop) (w : World) (e : Ending) (w' : World) : Prop := ∃ v1 v2, e = .returned (.tuple #[v1, v2]) ∧ R1 w' v1 ∧ R2 w' v2 ∧ Below w.heap.size w w'
def RetP (w : World) (q : Rat) (e : Ending) (w' : World) : Prop := ∃ v, e = .returned v ∧ PV w' v q ∧ Below w.heap.size w w'
def RetPE (w : World) (q : Rat) (err : Int) (e : Ending) (w' : World) : Prop := ∃ v, e = .returned (.tuple #[v, .int .i64 err]) ∧ PV w' v q ∧ Below w.heap.size w w'
def RetV (w : World) (v : Value) (e : Ending) (w' : World) : Prop := e = .returned v ∧ Below w.heap.size w w'
theorem cellO {w : World} {a : Addr} {v u : Value} {p : Addr} (h : w.cell? a = some v) (hne : a.block ≠ p.block) : (w.setCell p u).cell? a = some v := by
  rw [World.cell?_setCell_other _ _ _ _ (by intro e; subst e; exact hne rfl)]; exact h
theorem cellA {w : World} {a : Addr} {v : Value} (h : w.cell? a = some v) (o : Obj) : (w.alloc o).cell? a = some v := by
  rw [World.cell?_alloc_lt _ _ _ (cell_lt h)]; exact h
theorem cellK {w w' : World} {a : Addr} {v : Value} (h : w.cell? a = some v) (hb : Below w.heap.size w w') : w'.cell? a = some v := by
  rw [hb.cell (p := a) (cell_lt h)]; exact h
theorem bStep {w W W' : World} (h : Below w.heap.size w W) (hb : Below W.heap.size W W') : Below w.heap.size w W' := Below.trans h (hb.mono (Below.size h))
theorem bDrew (w : World) : Below w.heap.size w w.drew := (Below.refl _ _).drew
def SzP (K : Nat) (q : Rat) : Prop := q.num.natAbs < 18446744073709551616 ^ K ∧ q.den < 18446744073709551616 ^ K
def Fit (q : Rat) : Prop := SzQ 134217728 q
theorem SzQ.p {K : Nat} {q : Rat} (h : SzQ K q) : SzP K q :=
  ⟨Nat.lt_of_lt_of_le h.1 (Nat.pow_le_pow_left (by omega) K), Nat.lt_of_lt_of_le h.2 (Nat.pow_le_pow_left (by omega) K)⟩
theorem Fit.p {q : Rat} (h : Fit q) : SzP 134217728 q := SzQ.p h
theorem SzQ.fit {K : Nat} {q : Rat} (h : SzQ K q) (hK : K ≤ 134217728 := by omega) : Fit q := h.mono hK
theorem pow_mul_ltP {K L a b : Nat} (ha : a < 18446744073709551616 ^ K) (hb : b < 18446744073709551616 ^ L) : a * b < 18446744073709551616 ^ (K + L) := by
  rw [Nat.pow_add]
  rcases Nat.eq_zero_or_pos b with h | h
  · subst h; exact Nat.mul_pos (Nat.pow_pos (by omega)) (Nat.pow_pos (by omega))
  · exact Nat.lt_of_lt_of_le (Nat.mul_lt_mul_of_pos_right ha h) (Nat.mul_le_mul_left _ (Nat.le_of_lt hb))
theorem pow_add_ltP {K a b : Nat} (ha : a < 18446744073709551616 ^ K) (hb : b < 18446744073709551616 ^ K) : a + b < 18446744073709551616 ^ (K + 1) := by
  have : 0 < 18446744073709551616 ^ K := Nat.pow_pos (by omega)
  rw [Nat.pow_succ]
  omega
theorem Bx.a0 {w : World} {g : Nat} {t : TypeId} {a0 : Value} {l : List Value} (h : Bx w g t (a0 :: l).toArray) : w.cell? ⟨g, 0, none⟩ = some a0 := h.at 0 rfl
theorem Bx.a1 {w : World} {g : Nat} {t : TypeId} {a0 : Value} {a1 : Value} {l : List Value} (h : Bx w g t (a0 :: a1 :: l).toArray) : w.cell? ⟨g, 1, none⟩ = some a1 := h.at 1 rfl
theorem Bx.a2 {w : World} {g : Nat} {t : TypeId} {a0 : Value} {a1 : Value} {a2 : Value} {l : List Value} (h : Bx w g t (a0 :: a1 :: a2 :: l).toArray) : w.cell? ⟨g, 2, none⟩ = some a2 := h.at 2 rfl
theorem Bx.a3 {w : World} {g : Nat} {t : TypeId} {a0 : Value} {a1 : Value} {a2 : Value} {a3 : Value} {l : List Value} (h : Bx w g t (a0 :: a1 :: a2 :: a3 :: l).toArray) : w.cell? ⟨g, 3, none⟩ = some a3 := h.at 3 rfl
theorem Bx.a4 {w : World} {g : Nat} {t : TypeId} {a0 : Value} {a1 : Value} {a2 : Value} {a3 : Value} {a4 : Value} {l : List Value} (h : Bx w g t (a0 :: a1 :: a2 :: a3 :: a4 :: l).toArray) : w.cell? ⟨g, 4, none⟩ = some a4 := h.at 4 rfl
theorem Bx.a5 {w : World} {g : Nat} {t : TypeId} {a0 : Value} {a1 : Value} {a2 : Value} {a3 : Value} {a4 : Value} {a5 : Value} {l : List Value} (h : Bx w g t (a0 :: a1 :: a2 :: a3 :: a4 :: a5 :: l).toArray) : w.cell? ⟨g, 5, none⟩ = some a5 := h.at 5 rfl
theorem Bx.a6 {w : World} {g : Nat} {t : TypeId} {a0 : Value} {a1 : Value} {a2 : Value} {a3 : Value} {a4 : Value} {a5 : Value} {a6 : Value} {l : List Value} (h : Bx w g t (a0 :: a1 :: a2 :: a3 :: a4 :: a5 :: a6 :: l).toArray) : w.cell? ⟨g, 6, none⟩ = some a6 := h.at 6 rfl
theorem Bx.a7 {w : World} {g : Nat} {t : TypeId} {a0 : Value} {a1 : Value} {a2 : Value} {a3 : Value} {a4 : Value} {a5 : Value} {a6 : Value} {a7 : Value} {l : List Value} (h : Bx w g t (a0 :: a1 :: a2 :: a3 :: a4 :: a5 :: a6 :: a7 :: l).toArray) : w.cell? ⟨g, 7, none⟩ = some a7 := h.at 7 rfl
theorem Bx.a8 {w : World} {g : Nat} {t : TypeId} {a0 : Value} {a1 : Value} {a2 : Value} {a3 : Value} {a4 : Value} {a5 : Value} {a6 : Value} {a7 : Value} {a8 : Value} {l : List Value} (h : Bx w g t (a0 :: a1 :: a2 :: a3 :: a4 :: a5 :: a6 :: a7 :: a8 :: l).toArray) : w.cell? ⟨g, 8, none⟩ = some a8 := h.at 8 rfl
class Mv (A : Prop) (w w' : World) (B : outParam Prop) : Prop where
  mv : Below w.heap.size w w' → A → B
class Mk (A : Prop) (w w' : World) (B : outParam Prop) : Prop where
  mv : KeepD w w' → A → B
class MvS (A : Prop) (w w' : World) (B : outParam Prop) : Prop where
  mv : Below w.heap.size w w' → B → A
class MkS (A : Prop) (w w' : World) (B : outParam Prop) : Prop where
  mv : KeepD w w' → B → A
section
variable {w w' : World}
instance {g : Nat} {t : TypeId} {c : Array Value} : Mv (Bx w g t c) w w' (Bx w' g t c) := ⟨fun hb h => h.mono hb⟩
instance {v : Value} {q : Rat} : Mv (PV w v q) w w' (PV w' v q) := ⟨fun hb h => h.mono hb⟩
instance {v : Value} {q : Rat} : Mv (RV w v q) w w' (RV w' v q) := ⟨fun hb h => h.mono hb⟩
instance {v : Value} {q : Rat} : Mk (PV w v q) w w' (PV w' v q) := ⟨fun hb h => h.keep hb⟩
instance {v : Value} {q : Rat} : Mk (RV w v q) w w' (RV w' v q) := ⟨fun hb h => h.keep hb⟩
instance (priority := low) {G : Prop} : MvS G w w' G := ⟨fun _ h => h⟩
instance (priority := low) {G : Prop} : MkS G w w' G := ⟨fun _ h => h⟩
instance {A B X Y : Prop} [Mv A w w' B] [MvS X w w' Y] : MvS (A → X) w w' (B → Y) := ⟨fun hb h a => MvS.mv hb (h (Mv.mv hb a))⟩
instance {A B X Y : Prop} [Mk A w w' B] [MkS X w w' Y] : MkS (A → X) w w' (B → Y) := ⟨fun hb h a => MkS.mv hb (h (Mk.mv hb a))⟩
theorem mo {X Y : Prop} [MvS X w w' Y] (hb : Below w.heap.size w w') (h : Y) : X := MvS.mv hb h
theorem ke {X Y : Prop} [MkS X w w' Y] (hk : KeepD w w') (h : Y) : X := MkS.mv hk h
theorem mS {u : World} {X Y : Prop} [MvS X w w' Y] (hs : Below u.heap.size u w) (hb : Below w.heap.size w w') (h : Below u.heap.size u w' → Y) : X := MvS.mv hb (h (Below.trans hs (hb.mono (Below.size hs))))
end
theorem Bx.k1l {w : World} {g : Nat} {t : TypeId} {a0 : Value} {r : List Value} {G : Prop} (h : Bx w g t (a0 :: r).toArray) (k : w.cell? ⟨g, 0, none⟩ = some a0 → g < w.heap.size → G) : G := k (h.at 0 rfl) h.lt
theorem Bx.k1f {w : World} {g : Nat} {t : TypeId} {a0 : Value} {r : List Value} {G : Prop} (h : Bx w g t (a0 :: r).toArray) (k : w.cell? ⟨g, 0, none⟩ = some a0 → (∀ i : Nat, w.frozen? ⟨g, i, none⟩ = false) → G) : G := k (h.at 0 rfl) h.free
theorem Bx.k1fl {w : World} {g : Nat} {t : TypeId} {a0 : Value} {r : List Value} {G : Prop} (h : Bx w g t (a0 :: r).toArray) (k : w.cell? ⟨g, 0, none⟩ = some a0 → (∀ i : Nat, w.frozen? ⟨g, i, none⟩ = false) → g < w.heap.size → G) : G := k (h.at 0 rfl) h.free h.lt
theorem Bx.k2 {w : World} {g : Nat} {t : TypeId} {a0 a1 : Value} {r : List Value} {G : Prop} (h : Bx w g t (a0 :: a1 :: r).toArray) (k : w.cell? ⟨g, 0, none⟩ = some a0 → w.cell? ⟨g, 1, none⟩ = some a1 → G) : G := k (h.at 0 rfl) (h.at 1 rfl)
theorem Bx.k2l {w : World} {g : Nat} {t : TypeId} {a0 a1 : Value} {r : List Value} {G : Prop} (h : Bx w g t (a0 :: a1 :: r).toArray) (k : w.cell? ⟨g, 0, none⟩ = some a0 → w.cell? ⟨g, 1, none⟩ = some a1 → g < w.heap.size → G) : G := k (h.at 0 rfl) (h.at 1 rfl) h.lt
theorem Bx.k2f {w : World} {g : Nat} {t : TypeId} {a0 a1 : Value} {r : List Value} {G : Prop} (h : Bx w g t (a0 :: a1 :: r).toArray) (k : w.cell? ⟨g, 0, none⟩ = some a0 → w.cell? ⟨g, 1, none⟩ = some a1 → (∀ i : Nat, w.frozen? ⟨g, i, none⟩ = false) → G) : G := k (h.at 0 rfl) (h.at 1 rfl) h.free
theorem Bx.k2fl {w : World} {g : Nat} {t : TypeId} {a0 a1 : Value} {r : List Value} {G : Prop} (h : Bx w g t (a0 :: a1 :: r).toArray) (k : w.cell? ⟨g, 0, none⟩ = some a0 → w.cell? ⟨g, 1, none⟩ = some a1 → (∀ i : Nat, w.frozen? ⟨g, i, none⟩ = false) → g < w.heap.size → G) : G := k (h.at 0 rfl) (h.at 1 rfl) h.free h.lt
theorem Bx.k3 {w : World} {g : Nat} {t : TypeId} {a0 a1 a2 : Value} {r : List Value} {G : Prop} (h : Bx w g t (a0 :: a1 :: a2 :: r).toArray) (k : w.cell? ⟨g, 0, none⟩ = some a0 → w.cell? ⟨g, 1, none⟩ = some a1 → w.cell? ⟨g, 2, none⟩ = some a2 → G) : G := k (h.at 0 rfl) (h.at 1 rfl) (h.at 2 rfl)
theorem Bx.k3l {w : World} {g : Nat} {t : TypeId} {a0 a1 a2 : Value} {r : List Value} {G : Prop} (h : Bx w g t (a0 :: a1 :: a2 :: r).toArray) (k : w.cell? ⟨g, 0, none⟩ = some a0 → w.cell? ⟨g, 1, none⟩ = some a1 → w.cell? ⟨g, 2, none⟩ = some a2 → g < w.heap.size → G) : G := k (h.at 0 rfl) (h.at 1 rfl) (h.at 2 rfl) h.lt
theorem Bx.k3f {w : World} {g : Nat} {t : TypeId} {a0 a1 a2 : Value} {r : List Value} {G : Prop} (h : Bx w g t (a0 :: a1 :: a2 :: r).toArray) (k : w.cell? ⟨g, 0, none⟩ = some a0 → w.cell? ⟨g, 1, none⟩ = some a1 → w.cell? ⟨g, 2, none⟩ = some a2 → (∀ i : Nat, w.frozen? ⟨g, i, none⟩ = false) → G) : G := k (h.at 0 rfl) (h.at 1 rfl) (h.at 2 rfl) h.free
theorem Bx.k3fl {w : World} {g : Nat} {t : TypeId} {a0 a1 a2 : Value} {r : List Value} {G : Prop} (h : Bx w g t (a0 :: a1 :: a2 :: r).toArray) (k : w.cell? ⟨g, 0, none⟩ = some a0 → w.cell? ⟨g, 1, none⟩ = some a1 → w.cell? ⟨g, 2, none⟩ = some a2 → (∀ i : Nat, w.frozen? ⟨g, i, none⟩ = false) → g < w.heap.size → G) : G := k (h.at 0 rfl) (h.at 1 rfl) (h.at 2 rfl) h.free h.lt
theorem Bx.k4 {w : World} {g : Nat} {t : TypeId} {a0 a1 a2 a3 : Value} {r : List Value} {G : Prop} (h : Bx w g t (a0 :: a1 :: a2 :: a3 :: r).toArray) (k : w.cell? ⟨g, 0, none⟩ = some a0 → w.cell? ⟨g, 1, none⟩ = some a1 → w.cell? ⟨g, 2, none⟩ = some a2 → w.cell? ⟨g, 3, none⟩ = some a3 → G) : G := k (h.at 0 rfl) (h.at 1 rfl) (h.at 2 rfl) (h.at 3 rfl)
theorem Bx.k4l {w : World} {g : Nat} {t : TypeId} {a0 a1 a2 a3 : Value} {r : List Value} {G : Prop} (h : Bx w g t (a0 :: a1 :: a2 :: a3 :: r).toArray) (k : w.cell? ⟨g, 0, none⟩ = some a0 → w.cell? ⟨g, 1, none⟩ = some a1 → w.cell? ⟨g, 2, none⟩ = some a2 → w.cell? ⟨g, 3, none⟩ = some a3 → g < w.heap.size → G) : G := k (h.at 0 rfl) (h.at 1 rfl) (h.at 2 rfl) (h.at 3 rfl) h.lt
theorem Bx.k4f {w : World} {g : Nat} {t : TypeId} {a0 a1 a2 a3 : Value} {r : List Value} {G : Prop} (h : Bx w g t (a0 :: a1 :: a2 :: a3 :: r).toArray) (k : w.cell? ⟨g, 0, none⟩ = some a0 → w.cell? ⟨g, 1, none⟩ = some a1 → w.cell? ⟨g, 2, none⟩ = some a2 → w.cell? ⟨g, 3, none⟩ = some a3 → (∀ i : Nat, w.frozen? ⟨g, i, none⟩ = false) → G) : G := k (h.at 0 rfl) (h.at 1 rfl) (h.at 2 rfl) (h.at 3 rfl) h.free
theorem Bx.k4fl {w : World} {g : Nat} {t : TypeId} {a0 a1 a2 a3 : Value} {r : List Value} {G : Prop} (h : Bx w g t (a0 :: a1 :: a2 :: a3 :: r).toArray) (k : w.cell? ⟨g, 0, none⟩ = some a0 → w.cell? ⟨g, 1, none⟩ = some a1 → w.cell? ⟨g, 2, none⟩ = some a2 → w.cell? ⟨g, 3, none⟩ = some a3 → (∀ i : Nat, w.frozen? ⟨g, i, none⟩ = false) → g < w.heap.size → G) : G := k (h.at 0 rfl) (h.at 1 rfl) (h.at 2 rfl) (h.at 3 rfl) h.free h.lt
end Go.Proofs.YtbnomdlojmgigaaGreat
