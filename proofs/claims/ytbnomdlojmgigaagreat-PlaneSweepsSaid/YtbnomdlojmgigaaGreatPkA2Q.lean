/-
  What a walk over functions of fractions wants: blocks known whole ('Bx'), what keeps the digits of numbers ('KeepD'), worlds taken for a letter, results. No function of the program is in sight here.
-/
import Derived.Test.YtbnomdlojmgigaaGreatPkA1Q
import Derived.Handy
import Derived.RangeFuncOwn
set_option linter.unusedSimpArgs false
set_option linter.unusedVariables false
namespace Go.Proofs.YtbnomdlojmgigaaGreat
open Go.RowKit Dg
theorem Calls.abs {P : Program} {f : FuncId} {args : Array Value} {w : World} {R : Ending → World → Prop} (h : ∀ w', w' = w → Calls P f args w' R) : Calls P f args w R := h w rfl
theorem Code.abs {P : Program} {c : Code} {Q : Exit → Act → World → Prop} {a : Act} {w : World} (h : ∀ w', w' = w → c.wp P Q a w') : c.wp P Q a w := h w rfl
theorem bodyPost.abs {P : Program} {fn : Func} {R : Ending → World → Prop} {e : Exit} {a : Act} {w : World} (h : ∀ w', w' = w → bodyPost P fn R e a w') : bodyPost P fn R e a w := h w rfl
theorem wpList.abs {P : Program} {ops : Array Oper} {Q : Exit → Act → World → Prop} {l : List Oper} {a : Act} {w : World} (h : ∀ w', w' = w → wpList P ops Q l a w') : wpList P ops Q l a w := h w rfl
def Bx (w : World) (g : Nat) (t : TypeId) (cs : Array Value) : Prop := w.heap[g]? = some (.cells cs t (0, 0))
section
variable {w w' : World} {g : Nat} {t : TypeId} {cs : Array Value}
theorem Bx.lt (h : Bx w g t cs) : g < w.heap.size := lt_of_block h
theorem Bx.ty (h : Bx w g t cs) : TyB t w g := ⟨cs, (0, 0), h⟩
theorem Bx.at (h : Bx w g t cs) (i : Nat) {v : Value} (hv : cs[i]? = some v) : w.cell? ⟨g, i, none⟩ = some v := by rw [cell_of_row w g i cs t (0, 0) h]; exact hv
theorem Bx.news {l : List Value} (h : Bx w g t l.toArray) : ∀ j u, l[j]? = some u → w.cell? ((⟨g, 0, none⟩ : Addr).add j) = some u := fun j u hu => by
  rw [add_plain, Nat.zero_add]; exact h.at j (by simpa using hu)
theorem Bx.free (h : Bx w g t cs) (i : Nat) : w.frozen? ⟨g, i, none⟩ = false := by
  unfold Bx at h
  simp [World.frozen?, h]
theorem Bx.new (w : World) (t : TypeId) (cs : Array Value) : Bx (w.alloc (.cells cs t)) w.heap.size t cs := heap_alloc_new w _
theorem Bx.new' (w : World) (t : TypeId) (cs : Array Value) (g : Nat) (hg : g = w.heap.size) : Bx (w.alloc (.cells cs t)) g t cs := by subst hg; exact heap_alloc_new w _
theorem Bx.drew (h : Bx w g t cs) : Bx w.drew g t cs := h
theorem Bx.drewN (h : Bx w g t cs) (n : Nat) : Bx (w.drewN n) g t cs := h
theorem Bx.alloc (h : Bx w g t cs) (o : Obj) : Bx (w.alloc o) g t cs := (Below.heap_alloc w o g h.lt).trans h
theorem Bx.set (h : Bx w g t cs) (i : Nat) (u : Value) {cs' : Array Value} (hc : cs.setIfInBounds i u = cs') : Bx (w.setCell ⟨g, i, none⟩ u) g t cs' := by
  subst hc
  unfold Bx at h ⊢
  simp [World.setCell, Array.getElem?_modify, h]
theorem Bx.far (h : Bx w g t cs) {p : Addr} (hp : g ≠ p.block) (u : Value) : Bx (w.setCell p u) g t cs := (Below.heap_setCell w p u g hp).trans h
theorem Bx.mono (h : Bx w g t cs) (hb : Below w.heap.size w w') : Bx w' g t cs := (hb.block g h.lt).trans h
theorem Bx.grown {row : Option Nat} (h : Bx w g t cs) (hb : w.grownBy w' row) (hg : some g ≠ row) : Bx w' g t cs := (hb.block g h.lt hg).trans h
theorem Bx.only {T : TypeId} (h : Bx w g t cs) (ho : OnlyT T w w') (hne : T ≠ t) : Bx w' g t cs := (ho.block g h.lt (fun hT => (TyB.ne hT h.ty hne) rfl)).trans h
end
structure KeepD (w w' : World) : Prop where
  size : w.heap.size ≤ w'.heap.size
  block : ∀ k t, TyB t w k → (t = 108 ∨ t = 150) → w'.heap[k]? = w.heap[k]?
theorem KeepD.refl (w : World) : KeepD w w := ⟨Nat.le_refl _, fun _ _ _ _ => rfl⟩
theorem KeepD.ty {w w' : World} (h : KeepD w w') {k : Nat} {t : TypeId} (hk : TyB t w k) (ht : t = 108 ∨ t = 150) : TyB t w' k := by
  obtain ⟨cs, fr, h1⟩ := id hk
  exact ⟨cs, fr, (h.block k t hk ht).trans h1⟩
theorem KeepD.trans {a b c : World} (h : KeepD a b) (h' : KeepD b c) : KeepD a c :=
  ⟨Nat.le_trans h.size h'.size, fun k t hk ht => (h'.block k t (h.ty hk ht) ht).trans (h.block k t hk ht)⟩
theorem KeepD.of_below {w w' : World} (h : Below w.heap.size w w') : KeepD w w' := ⟨h.size, fun k _ hk _ => h.block k hk.lt⟩
theorem KeepD.below {a w w' : World} (h : KeepD a w) (hb : Below w.heap.size w w') : KeepD a w' := h.trans (.of_below hb)
theorem KeepD.alloc {a w : World} (h : KeepD a w) (o : Obj) : KeepD a (w.alloc o) := h.below ((Below.refl _ _).alloc (Nat.le_refl _) o)
theorem KeepD.drew {a w : World} (h : KeepD a w) : KeepD a w.drew := h.below (Below.refl _ _).drew
theorem KeepD.drewN {a w : World} (h : KeepD a w) (n : Nat) : KeepD a (w.drewN n) := h.below (belowN (Below.refl _ _) n)
theorem KeepD.of_only {w w' : World} {T : TypeId} (h : OnlyT T w w') (hT : T ≠ 108 ∧ T ≠ 150) : KeepD w w' :=
  ⟨h.size, fun k t hk ht => h.block k hk.lt (fun hT' => by
    rcases ht with rfl | rfl
    · exact TyB.ne hT' hk hT.1 rfl
    · exact TyB.ne hT' hk hT.2 rfl)⟩
theorem KeepD.set {a w : World} {g : Nat} {T : TypeId} (h : KeepD a w) (hg : TyB T w g) (hT : T ≠ 108 ∧ T ≠ 150) (j : Nat) (u : Value) : KeepD a (w.setCell ⟨g, j, none⟩ u) :=
  h.trans (.of_only (OnlyT.store hg j u) hT)
theorem KeepD.owns {w w' : World} {base : Nat} {e : TypeId} {size : Nat} {v : Value} {n : Nat} {xs : List Value} (h : w.ownsRow base e size v n xs) (hg : w.grownBy w' v.ownBlock) (he : e ≠ 108 ∧ e ≠ 150) : KeepD w w' :=
  .of_only (owns_onlyT h hg) he
theorem TyB.alloc {t : TypeId} {w : World} {g : Nat} (h : TyB t w g) (o : Obj) : TyB t (w.alloc o) g := h.mono ((Below.refl _ _).alloc (Nat.le_refl _) o)
theorem TyB.drew {t : TypeId} {w : World} {g : Nat} (h : TyB t w g) : TyB t w.drew g := h
theorem NatV.keep {k : IntKind} {B : Nat} {w w' : World} {v : Value} {x : Nat} (h : NatV k B w v x) (hk : KeepD w w') (ht : tyOf k = 108 ∨ tyOf k = 150 := by first | exact .inl rfl | exact .inr rfl) : NatV k B w' v x := by
  obtain ⟨ao, n, c, l, e, hs, hc, hv⟩ := h
  refine ⟨ao, n, c, l, e, ⟨hs.len, hs.cap, hs.max, ?_, hs.nil, fun a e' hn => hk.ty (hs.ty a e' hn) ht⟩, hc, hv⟩
  intro i hi
  obtain ⟨b, o, e', hcl⟩ := hs.cells i hi
  refine ⟨b, o, e', fun j hj => ?_⟩
  have h1 := hcl j hj
  exact (World.cell?_of_block (hk.block b _ (hs.ty _ e' (by have := hs.len; omega)) ht)).trans h1
def PV (w : World) (v : Value) (q : Rat) : Prop :=
  ∃ vn vd, v = .agg #[.bool (ng q), vn, vd] ∧ NatV .u64 18446744073709551616 w vn q.num.natAbs ∧ NatV .u64 18446744073709551616 w vd (if q.den = 1 then 0 else q.den)
theorem PV.mono {w w' : World} {v : Value} {q : Rat} (h : PV w v q) (hb : Below w.heap.size w w') : PV w' v q := by
  obtain ⟨vn, vd, e, h1, h2⟩ := h
  exact ⟨vn, vd, e, h1.mono hb, h2.mono hb⟩
theorem PV.keep {w w' : World} {v : Value} {q : Rat} (h : PV w v q) (hk : KeepD w w') : PV w' v q := by
  obtain ⟨vn, vd, e, h1, h2⟩ := h
  exact ⟨vn, vd, e, h1.keep hk (.inl rfl), h2.keep hk (.inl rfl)⟩
theorem RV.keep {w w' : World} {v : Value} {q : Rat} (h : RV w v q) (hk : KeepD w w') : RV w' v q := by
  obtain ⟨vn, vd, d, e, h1, h2, h3⟩ := h
  exact ⟨vn, vd, d, e, h1.keep hk (.inr rfl), h2.keep hk (.inr rfl), h3⟩
theorem PV.shape {w : World} {v : Value} {q : Rat} (h : PV w v q) : ∃ s a1 n1 c1 a2 n2 c2, v = .agg #[.bool s, .slice a1 n1 c1, .slice a2 n2 c2] := by
  obtain ⟨vn, vd, e, ⟨a1, n1, c1, l1, rfl, _⟩, ⟨a2, n2, c2, l2, rfl, _⟩⟩ := h
  exact ⟨_, _, _, _, _, _, _, e⟩
theorem RV.shape {w : World} {v : Value} {q : Rat} (h : RV w v q) : ∃ s a1 n1 c1 a2 n2 c2, v = .agg #[.bool s, .slice a1 n1 c1, .slice a2 n2 c2] := by
  obtain ⟨vn, vd, d, e, ⟨a1, n1, c1, l1, rfl, _⟩, ⟨a2, n2, c2, l2, rfl, _⟩, _⟩ := h
  exact ⟨_, _, _, _, _, _, _, e⟩
theorem NatV.shape {k : IntKind} {B : Nat} {w : World} {v : Value} {x : Nat} (h : NatV k B w v x) : ∃ a n c, v = .slice a n c := by
  obtain ⟨a, n, c, l, e, _⟩ := h
  exact ⟨_, _, _, e⟩
theorem PV.parts {w : World} {q : Rat} {s v1 v2 : Value} (h : PV w (.agg #[s, v1, v2]) q) : s = .bool (ng q) ∧ NatV .u64 18446744073709551616 w v1 q.num.natAbs ∧ NatV .u64 18446744073709551616 w v2 (if q.den = 1 then 0 else q.den) := by
  obtain ⟨vn, vd, e, h1, h2⟩ := h
  injection e with e
  injection e with e
  injection e with e1 e
  injection e with e2 e
  injection e with e3 e
  subst e1 e2 e3
  exact ⟨rfl, h1, h2⟩
theorem PV.sign {w : World} {q : Rat} {s : Bool} {v1 v2 : Value} (h : PV w (.agg #[.bool s, v1, v2]) q) : s = ng q := by
  have := h.parts.1
  injection this
theorem PV.mk' {w : World} {q : Rat} {b : Bool} {v1 v2 : Value} {n d : Nat} (h1 : NatV .u64 18446744073709551616 w v1 n) (h2 : NatV .u64 18446744073709551616 w v2 d) (hb : b = ng q) (hn : n = q.num.natAbs) (hd : d = if q.den = 1 then 0 else q.den) : PV w (.agg #[.bool b, v1, v2]) q := by
  subst hb hn hd
  exact ⟨v1, v2, rfl, h1, h2⟩
def Ret1 (R : World → Value → Prop) (w : World) (e : Ending) (w' : World) : Prop := ∃ v, e = .returned v ∧ R w' v ∧ Below w.heap.size w w'
def Ret2 (R1 R2 : World → Value → Prop) (w : World) (e : Ending) (w' : World) : Prop := ∃ v1 v2, e = .returned (.tuple #[v1, v2]) ∧ R1 w' v1 ∧ R2 w' v2 ∧ Below w.heap.size w w'
def Ret3 (R1 R2 R3 : World → Value → Prop) (w : World) (e : Ending) (w' : World) : Prop := ∃ v1 v2 v3, e = .returned (.tuple #[v1, v2, v3]) ∧ R1 w' v1 ∧ R2 w' v2 ∧ R3 w' v3 ∧ Below w.heap.size w w'
def RetP (w : World) (q : Rat) (e : Ending) (w' : World) : Prop := ∃ v, e = .returned v ∧ PV w' v q ∧ Below w.heap.size w w'
def RetPE (w : World) (q : Rat) (err : Int) (e : Ending) (w' : World) : Prop := ∃ v, e = .returned (.tuple #[v, .int .i64 err]) ∧ PV w' v q ∧ Below w.heap.size w w'
def RetV (w : World) (v : Value) (e : Ending) (w' : World) : Prop := e = .returned v ∧ Below w.heap.size w w'
theorem cellO {w : World} {a : Addr} {v u : Value} {p : Addr} (h : w.cell? a = some v) (hne : a.block ≠ p.block) : (w.setCell p u).cell? a = some v := by
  rw [World.cell?_setCell_other _ _ _ _ (by intro e; subst e; exact hne rfl)]; exact h
theorem cellA {w : World} {a : Addr} {v : Value} (h : w.cell? a = some v) (o : Obj) : (w.alloc o).cell? a = some v := by
  rw [World.cell?_alloc_lt _ _ _ (cell_lt h)]; exact h
theorem cellK {w w' : World} {a : Addr} {v : Value} (h : w.cell? a = some v) (hb : Below w.heap.size w w') : w'.cell? a = some v := by
  rw [hb.cell (p := a) (cell_lt h)]; exact h
theorem bStep {w W W' : World} (h : Below w.heap.size w W) (hb : Below W.heap.size W W') : Below w.heap.size w W' := Below.trans h (hb.mono (Below.size h))
theorem bDrew (w : World) : Below w.heap.size w w.drew := (Below.refl _ _).drew
def SzP (K : Nat) (q : Rat) : Prop := q.num.natAbs < 18446744073709551616 ^ K ∧ q.den < 18446744073709551616 ^ K
def Fit (q : Rat) : Prop := SzQ 134217728 q
theorem SzQ.p {K : Nat} {q : Rat} (h : SzQ K q) : SzP K q :=
  ⟨Nat.lt_of_lt_of_le h.1 (Nat.pow_le_pow_left (by omega) K), Nat.lt_of_lt_of_le h.2 (Nat.pow_le_pow_left (by omega) K)⟩
theorem Fit.p {q : Rat} (h : Fit q) : SzP 134217728 q := SzQ.p h
theorem SzQ.fit {K : Nat} {q : Rat} (h : SzQ K q) (hK : K ≤ 134217728 := by omega) : Fit q := h.mono hK
theorem pow_mul_ltP {K L a b : Nat} (ha : a < 18446744073709551616 ^ K) (hb : b < 18446744073709551616 ^ L) : a * b < 18446744073709551616 ^ (K + L) := by
  rw [Nat.pow_add]
  rcases Nat.eq_zero_or_pos b with h | h
  · subst h; exact Nat.mul_pos (Nat.pow_pos (by omega)) (Nat.pow_pos (by omega))
  · exact Nat.lt_of_lt_of_le (Nat.mul_lt_mul_of_pos_right ha h) (Nat.mul_le_mul_left _ (Nat.le_of_lt hb))
theorem pow_add_ltP {K a b : Nat} (ha : a < 18446744073709551616 ^ K) (hb : b < 18446744073709551616 ^ K) : a + b < 18446744073709551616 ^ (K + 1) := by
  have : 0 < 18446744073709551616 ^ K := Nat.pow_pos (by omega)
  rw [Nat.pow_succ]
  omega
theorem Bx.a0 {w : World} {g : Nat} {t : TypeId} {a0 : Value} {l : List Value} (h : Bx w g t (a0 :: l).toArray) : w.cell? ⟨g, 0, none⟩ = some a0 := h.at 0 rfl
theorem Bx.a1 {w : World} {g : Nat} {t : TypeId} {a0 : Value} {a1 : Value} {l : List Value} (h : Bx w g t (a0 :: a1 :: l).toArray) : w.cell? ⟨g, 1, none⟩ = some a1 := h.at 1 rfl
theorem Bx.a2 {w : World} {g : Nat} {t : TypeId} {a0 : Value} {a1 : Value} {a2 : Value} {l : List Value} (h : Bx w g t (a0 :: a1 :: a2 :: l).toArray) : w.cell? ⟨g, 2, none⟩ = some a2 := h.at 2 rfl
theorem Bx.a3 {w : World} {g : Nat} {t : TypeId} {a0 : Value} {a1 : Value} {a2 : Value} {a3 : Value} {l : List Value} (h : Bx w g t (a0 :: a1 :: a2 :: a3 :: l).toArray) : w.cell? ⟨g, 3, none⟩ = some a3 := h.at 3 rfl
theorem Bx.a4 {w : World} {g : Nat} {t : TypeId} {a0 : Value} {a1 : Value} {a2 : Value} {a3 : Value} {a4 : Value} {l : List Value} (h : Bx w g t (a0 :: a1 :: a2 :: a3 :: a4 :: l).toArray) : w.cell? ⟨g, 4, none⟩ = some a4 := h.at 4 rfl
theorem Bx.a5 {w : World} {g : Nat} {t : TypeId} {a0 : Value} {a1 : Value} {a2 : Value} {a3 : Value} {a4 : Value} {a5 : Value} {l : List Value} (h : Bx w g t (a0 :: a1 :: a2 :: a3 :: a4 :: a5 :: l).toArray) : w.cell? ⟨g, 5, none⟩ = some a5 := h.at 5 rfl
theorem Bx.a6 {w : World} {g : Nat} {t : TypeId} {a0 : Value} {a1 : Value} {a2 : Value} {a3 : Value} {a4 : Value} {a5 : Value} {a6 : Value} {l : List Value} (h : Bx w g t (a0 :: a1 :: a2 :: a3 :: a4 :: a5 :: a6 :: l).toArray) : w.cell? ⟨g, 6, none⟩ = some a6 := h.at 6 rfl
theorem Bx.a7 {w : World} {g : Nat} {t : TypeId} {a0 : Value} {a1 : Value} {a2 : Value} {a3 : Value} {a4 : Value} {a5 : Value} {a6 : Value} {a7 : Value} {l : List Value} (h : Bx w g t (a0 :: a1 :: a2 :: a3 :: a4 :: a5 :: a6 :: a7 :: l).toArray) : w.cell? ⟨g, 7, none⟩ = some a7 := h.at 7 rfl
theorem Bx.a8 {w : World} {g : Nat} {t : TypeId} {a0 : Value} {a1 : Value} {a2 : Value} {a3 : Value} {a4 : Value} {a5 : Value} {a6 : Value} {a7 : Value} {a8 : Value} {l : List Value} (h : Bx w g t (a0 :: a1 :: a2 :: a3 :: a4 :: a5 :: a6 :: a7 :: a8 :: l).toArray) : w.cell? ⟨g, 8, none⟩ = some a8 := h.at 8 rfl
class Mv (A : Prop) (w w' : World) (B : outParam Prop) : Prop where
  mv : Below w.heap.size w w' → A → B
class Mk (A : Prop) (w w' : World) (B : outParam Prop) : Prop where
  mv : KeepD w w' → A → B
class MvS (A : Prop) (w w' : World) (B : outParam Prop) : Prop where
  mv : Below w.heap.size w w' → B → A
class MkS (A : Prop) (w w' : World) (B : outParam Prop) : Prop where
  mv : KeepD w w' → B → A
section
variable {w w' : World}
instance {g : Nat} {t : TypeId} {c : Array Value} : Mv (Bx w g t c) w w' (Bx w' g t c) := ⟨fun hb h => h.mono hb⟩
instance {v : Value} {q : Rat} : Mv (PV w v q) w w' (PV w' v q) := ⟨fun hb h => h.mono hb⟩
instance {v : Value} {q : Rat} : Mv (RV w v q) w w' (RV w' v q) := ⟨fun hb h => h.mono hb⟩
instance {v : Value} {q : Rat} : Mk (PV w v q) w w' (PV w' v q) := ⟨fun hb h => h.keep hb⟩
instance {v : Value} {q : Rat} : Mk (RV w v q) w w' (RV w' v q) := ⟨fun hb h => h.keep hb⟩
instance (priority := low) {G : Prop} : MvS G w w' G := ⟨fun _ h => h⟩
instance (priority := low) {G : Prop} : MkS G w w' G := ⟨fun _ h => h⟩
instance {A B X Y : Prop} [Mv A w w' B] [MvS X w w' Y] : MvS (A → X) w w' (B → Y) := ⟨fun hb h a => MvS.mv hb (h (Mv.mv hb a))⟩
instance {A B X Y : Prop} [Mk A w w' B] [MkS X w w' Y] : MkS (A → X) w w' (B → Y) := ⟨fun hb h a => MkS.mv hb (h (Mk.mv hb a))⟩
theorem mo {X Y : Prop} [MvS X w w' Y] (hb : Below w.heap.size w w') (h : Y) : X := MvS.mv hb h
theorem ke {X Y : Prop} [MkS X w w' Y] (hk : KeepD w w') (h : Y) : X := MkS.mv hk h
theorem mS {u : World} {X Y : Prop} [MvS X w w' Y] (hs : Below u.heap.size u w) (hb : Below w.heap.size w w') (h : Below u.heap.size u w' → Y) : X := MvS.mv hb (h (Below.trans hs (hb.mono (Below.size hs))))
end
theorem Bx.k1l {w : World} {g : Nat} {t : TypeId} {a0 : Value} {r : List Value} {G : Prop} (h : Bx w g t (a0 :: r).toArray) (k : w.cell? ⟨g, 0, none⟩ = some a0 → g < w.heap.size → G) : G := k (h.at 0 rfl) h.lt
theorem Bx.k1f {w : World} {g : Nat} {t : TypeId} {a0 : Value} {r : List Value} {G : Prop} (h : Bx w g t (a0 :: r).toArray) (k : w.cell? ⟨g, 0, none⟩ = some a0 → (∀ i : Nat, w.frozen? ⟨g, i, none⟩ = false) → G) : G := k (h.at 0 rfl) h.free
theorem Bx.k1fl {w : World} {g : Nat} {t : TypeId} {a0 : Value} {r : List Value} {G : Prop} (h : Bx w g t (a0 :: r).toArray) (k : w.cell? ⟨g, 0, none⟩ = some a0 → (∀ i : Nat, w.frozen? ⟨g, i, none⟩ = false) → g < w.heap.size → G) : G := k (h.at 0 rfl) h.free h.lt
theorem Bx.k2 {w : World} {g : Nat} {t : TypeId} {a0 a1 : Value} {r : List Value} {G : Prop} (h : Bx w g t (a0 :: a1 :: r).toArray) (k : w.cell? ⟨g, 0, none⟩ = some a0 → w.cell? ⟨g, 1, none⟩ = some a1 → G) : G := k (h.at 0 rfl) (h.at 1 rfl)
theorem Bx.k2l {w : World} {g : Nat} {t : TypeId} {a0 a1 : Value} {r : List Value} {G : Prop} (h : Bx w g t (a0 :: a1 :: r).toArray) (k : w.cell? ⟨g, 0, none⟩ = some a0 → w.cell? ⟨g, 1, none⟩ = some a1 → g < w.heap.size → G) : G := k (h.at 0 rfl) (h.at 1 rfl) h.lt
theorem Bx.k2f {w : World} {g : Nat} {t : TypeId} {a0 a1 : Value} {r : List Value} {G : Prop} (h : Bx w g t (a0 :: a1 :: r).toArray) (k : w.cell? ⟨g, 0, none⟩ = some a0 → w.cell? ⟨g, 1, none⟩ = some a1 → (∀ i : Nat, w.frozen? ⟨g, i, none⟩ = false) → G) : G := k (h.at 0 rfl) (h.at 1 rfl) h.free
theorem Bx.k2fl {w : World} {g : Nat} {t : TypeId} {a0 a1 : Value} {r : List Value} {G : Prop} (h : Bx w g t (a0 :: a1 :: r).toArray) (k : w.cell? ⟨g, 0, none⟩ = some a0 → w.cell? ⟨g, 1, none⟩ = some a1 → (∀ i : Nat, w.frozen? ⟨g, i, none⟩ = false) → g < w.heap.size → G) : G := k (h.at 0 rfl) (h.at 1 rfl) h.free h.lt
theorem Bx.k3 {w : World} {g : Nat} {t : TypeId} {a0 a1 a2 : Value} {r : List Value} {G : Prop} (h : Bx w g t (a0 :: a1 :: a2 :: r).toArray) (k : w.cell? ⟨g, 0, none⟩ = some a0 → w.cell? ⟨g, 1, none⟩ = some a1 → w.cell? ⟨g, 2, none⟩ = some a2 → G) : G := k (h.at 0 rfl) (h.at 1 rfl) (h.at 2 rfl)
theorem Bx.k3l {w : World} {g : Nat} {t : TypeId} {a0 a1 a2 : Value} {r : List Value} {G : Prop} (h : Bx w g t (a0 :: a1 :: a2 :: r).toArray) (k : w.cell? ⟨g, 0, none⟩ = some a0 → w.cell? ⟨g, 1, none⟩ = some a1 → w.cell? ⟨g, 2, none⟩ = some a2 → g < w.heap.size → G) : G := k (h.at 0 rfl) (h.at 1 rfl) (h.at 2 rfl) h.lt
theorem Bx.k3f {w : World} {g : Nat} {t : TypeId} {a0 a1 a2 : Value} {r : List Value} {G : Prop} (h : Bx w g t (a0 :: a1 :: a2 :: r).toArray) (k : w.cell? ⟨g, 0, none⟩ = some a0 → w.cell? ⟨g, 1, none⟩ = some a1 → w.cell? ⟨g, 2, none⟩ = some a2 → (∀ i : Nat, w.frozen? ⟨g, i, none⟩ = false) → G) : G := k (h.at 0 rfl) (h.at 1 rfl) (h.at 2 rfl) h.free
theorem Bx.k3fl {w : World} {g : Nat} {t : TypeId} {a0 a1 a2 : Value} {r : List Value} {G : Prop} (h : Bx w g t (a0 :: a1 :: a2 :: r).toArray) (k : w.cell? ⟨g, 0, none⟩ = some a0 → w.cell? ⟨g, 1, none⟩ = some a1 → w.cell? ⟨g, 2, none⟩ = some a2 → (∀ i : Nat, w.frozen? ⟨g, i, none⟩ = false) → g < w.heap.size → G) : G := k (h.at 0 rfl) (h.at 1 rfl) (h.at 2 rfl) h.free h.lt
theorem Bx.k4 {w : World} {g : Nat} {t : TypeId} {a0 a1 a2 a3 : Value} {r : List Value} {G : Prop} (h : Bx w g t (a0 :: a1 :: a2 :: a3 :: r).toArray) (k : w.cell? ⟨g, 0, none⟩ = some a0 → w.cell? ⟨g, 1, none⟩ = some a1 → w.cell? ⟨g, 2, none⟩ = some a2 → w.cell? ⟨g, 3, none⟩ = some a3 → G) : G := k (h.at 0 rfl) (h.at 1 rfl) (h.at 2 rfl) (h.at 3 rfl)
theorem Bx.k4l {w : World} {g : Nat} {t : TypeId} {a0 a1 a2 a3 : Value} {r : List Value} {G : Prop} (h : Bx w g t (a0 :: a1 :: a2 :: a3 :: r).toArray) (k : w.cell? ⟨g, 0, none⟩ = some a0 → w.cell? ⟨g, 1, none⟩ = some a1 → w.cell? ⟨g, 2, none⟩ = some a2 → w.cell? ⟨g, 3, none⟩ = some a3 → g < w.heap.size → G) : G := k (h.at 0 rfl) (h.at 1 rfl) (h.at 2 rfl) (h.at 3 rfl) h.lt
theorem Bx.k4f {w : World} {g : Nat} {t : TypeId} {a0 a1 a2 a3 : Value} {r : List Value} {G : Prop} (h : Bx w g t (a0 :: a1 :: a2 :: a3 :: r).toArray) (k : w.cell? ⟨g, 0, none⟩ = some a0 → w.cell? ⟨g, 1, none⟩ = some a1 → w.cell? ⟨g, 2, none⟩ = some a2 → w.cell? ⟨g, 3, none⟩ = some a3 → (∀ i : Nat, w.frozen? ⟨g, i, none⟩ = false) → G) : G := k (h.at 0 rfl) (h.at 1 rfl) (h.at 2 rfl) (h.at 3 rfl) h.free
theorem Bx.k4fl {w : World} {g : Nat} {t : TypeId} {a0 a1 a2 a3 : Value} {r : List Value} {G : Prop} (h : Bx w g t (a0 :: a1 :: a2 :: a3 :: r).toArray) (k : w.cell? ⟨g, 0, none⟩ = some a0 → w.cell? ⟨g, 1, none⟩ = some a1 → w.cell? ⟨g, 2, none⟩ = some a2 → w.cell? ⟨g, 3, none⟩ = some a3 → (∀ i : Nat, w.frozen? ⟨g, i, none⟩ = false) → g < w.heap.size → G) : G := k (h.at 0 rfl) (h.at 1 rfl) (h.at 2 rfl) (h.at 3 rfl) h.free h.lt
end Go.Proofs.YtbnomdlojmgigaaGreat
namespace Go.Proofs.YtbnomdlojmgigaaGreat
open Go.RowKit Dg
def CellsAt (w : World) (b o : Nat) (cs : List Value) : Prop := ∀ j u, cs[j]? = some u → w.cell? ⟨b, o + j, none⟩ = some u
def Kept {α : Type} (R : World → List Value → α → Prop) : Prop := ∀ (w w' : World) (cs : List Value) (x : α), R w cs x → KeepD w w' → R w' cs x
def Rows {α : Type} (size : Nat) (T : TypeId) (R : World → List Value → α → Prop) (w : World) (v : Value) (l : List α) : Prop :=
  ∃ ao c, v = .slice ao l.length c ∧ l.length ≤ c ∧ c ≤ 9223372036854775807 ∧ (ao = none → c = 0) ∧ Lies T w ao l.length ∧
    ∀ (i : Nat) (x : α), l[i]? = some x → ∃ b o cs, ao = some ⟨b, o, none⟩ ∧ cs.length = size ∧ CellsAt w b (o + i * size) cs ∧ R w cs x
theorem CellsAt.mono {w w' : World} {b o : Nat} {cs : List Value} (h : CellsAt w b o cs) (hb : Below w.heap.size w w') : CellsAt w' b o cs := fun j u hu => cellK (h j u hu) hb
theorem CellsAt.onlyT {w w' : World} {b o : Nat} {cs : List Value} {T : TypeId} (h : CellsAt w b o cs) (ho : OnlyT T w w') (hn : ¬ TyB T w b) : CellsAt w' b o cs := fun j u hu => ho.cell (h j u hu) hn
section
variable {α : Type} {size : Nat} {T : TypeId} {R : World → List Value → α → Prop} {w w' : World} {v : Value} {l : List α}
theorem Rows.mono (hR : Kept R) (h : Rows size T R w v l) (hb : Below w.heap.size w w') : Rows size T R w' v l := by
  obtain ⟨ao, c, e, h1, h2, h3, h4, h5⟩ := h
  refine ⟨ao, c, e, h1, h2, h3, h4.mono hb, fun i x hx => ?_⟩
  obtain ⟨b, o, cs, ea, hl, hc, hr⟩ := h5 i x hx
  exact ⟨b, o, cs, ea, hl, hc.mono hb, hR _ _ _ _ hr (.of_below hb)⟩
theorem Rows.onlyT (hR : Kept R) {t : TypeId} (h : Rows size T R w v l) (ho : OnlyT t w w') (hne : t ≠ T) (hd : t ≠ 108 ∧ t ≠ 150) : Rows size T R w' v l := by
  obtain ⟨ao, c, e, h1, h2, h3, h4, h5⟩ := h
  refine ⟨ao, c, e, h1, h2, h3, fun a ha hn => ho.ty (h4 a ha hn) hne, fun i x hx => ?_⟩
  obtain ⟨b, o, cs, ea, hl, hc, hr⟩ := h5 i x hx
  have hi : i < l.length := (List.getElem?_eq_some_iff.1 hx).1
  have hb := h4 _ ea (by omega)
  exact ⟨b, o, cs, ea, hl, hc.onlyT ho (fun hT => TyB.ne hT hb hne rfl), hR _ _ _ _ hr (.of_only ho hd)⟩
theorem Rows.slice (h : Rows size T R w v l) : ∃ ao c, v = .slice ao l.length c ∧ l.length ≤ c ∧ c ≤ 9223372036854775807 ∧ (ao = none → c = 0) := by
  obtain ⟨ao, c, e, h1, h2, h3, _⟩ := h
  exact ⟨ao, c, e, h1, h2, h3⟩
theorem Rows.get (h : Rows size T R w v l) {i : Nat} {x : α} (hx : l[i]? = some x) : ∃ b o c cs, v = .slice (some ⟨b, o, none⟩) l.length c ∧ cs.length = size ∧ CellsAt w b (o + i * size) cs ∧ R w cs x := by
  obtain ⟨ao, c, e, h1, h2, h3, h4, h5⟩ := h
  obtain ⟨b, o, cs, ea, hl, hc, hr⟩ := h5 i x hx
  subst ea
  exact ⟨b, o, c, cs, e, hl, hc, hr⟩
theorem Rows.open_ (h : Rows size T R w v l) (hl : 0 < l.length) : ∃ b o c, v = .slice (some ⟨b, o, none⟩) l.length c ∧ l.length ≤ c ∧ c ≤ 9223372036854775807 ∧
    ∀ (i : Nat) (x : α), l[i]? = some x → ∃ cs, cs.length = size ∧ CellsAt w b (o + i * size) cs ∧ R w cs x := by
  obtain ⟨ao, c, e, h1, h2, h3, h4, h5⟩ := h
  obtain ⟨b, o, cs, ea, _⟩ := h5 0 (l[0]'hl) (List.getElem?_eq_getElem hl)
  subst ea
  refine ⟨b, o, c, e, h1, h2, fun i x hx => ?_⟩
  obtain ⟨b', o', cs, ea, hl, hc, hr⟩ := h5 i x hx
  cases ea
  exact ⟨cs, hl, hc, hr⟩
theorem Rows.lt {b o n c : Nat} {p : Option _} (h : Rows size T R w (.slice (some ⟨b, o, p⟩) n c) l) (hl : 0 < l.length) : b < w.heap.size := by
  obtain ⟨ao, c, e, h1, h2, h3, h4, h5⟩ := h
  injection e with e _ _
  subst e
  obtain ⟨cs, fr, h6⟩ := h4 _ rfl hl
  exact lt_of_block h6
theorem Rows.take (h : Rows size T R w v l) (k : Nat) : ∀ ao n c, v = .slice ao n c → k ≤ n → Rows size T R w (.slice ao k c) (l.take k) := by
  intro ao n c e hk
  obtain ⟨ao', c', e', h1, h2, h3, h4, h5⟩ := h
  rw [e] at e'
  injection e' with ea en ec
  subst ea en ec
  have hl : (l.take k).length = k := by rw [List.length_take]; omega
  refine ⟨ao, c, by rw [hl], by omega, h2, h3, h4.take (by omega), fun i x hx => ?_⟩
  rw [List.getElem?_take] at hx
  split at hx
  · exact h5 i x hx
  · cases hx
end
def RowsI {α : Type} (size : Nat) (R : World → List Value → α → Prop) (w : World) (v : Value) (l : List α) : Prop :=
  ∃ ao c, v = .slice ao l.length c ∧ l.length ≤ c ∧ c ≤ 9223372036854775807 ∧ (ao = none → c = 0) ∧
    ∀ (i : Nat) (x : α), l[i]? = some x → ∃ b o cs, ao = some ⟨b, o, none⟩ ∧ cs.length = size ∧ CellsAt w b (o + i * size) cs ∧ R w cs x
section
variable {α : Type} {size : Nat} {T : TypeId} {R : World → List Value → α → Prop} {w w' : World} {v : Value} {l : List α}
theorem Rows.toI (h : Rows size T R w v l) : RowsI size R w v l := by
  obtain ⟨ao, c, e, h1, h2, h3, _, h5⟩ := h
  exact ⟨ao, c, e, h1, h2, h3, h5⟩
theorem RowsI.mono (hR : Kept R) (h : RowsI size R w v l) (hb : Below w.heap.size w w') : RowsI size R w' v l := by
  obtain ⟨ao, c, e, h1, h2, h3, h5⟩ := h
  refine ⟨ao, c, e, h1, h2, h3, fun i x hx => ?_⟩
  obtain ⟨b, o, cs, ea, hl, hc, hr⟩ := h5 i x hx
  exact ⟨b, o, cs, ea, hl, hc.mono hb, hR _ _ _ _ hr (.of_below hb)⟩
theorem RowsI.slice (h : RowsI size R w v l) : ∃ ao c, v = .slice ao l.length c ∧ l.length ≤ c ∧ c ≤ 9223372036854775807 ∧ (ao = none → c = 0) := by
  obtain ⟨ao, c, e, h1, h2, h3, _⟩ := h
  exact ⟨ao, c, e, h1, h2, h3⟩
theorem RowsI.get (h : RowsI size R w v l) {i : Nat} {x : α} (hx : l[i]? = some x) : ∃ b o c cs, v = .slice (some ⟨b, o, none⟩) l.length c ∧ cs.length = size ∧ CellsAt w b (o + i * size) cs ∧ R w cs x := by
  obtain ⟨ao, c, e, h1, h2, h3, h5⟩ := h
  obtain ⟨b, o, cs, ea, hl, hc, hr⟩ := h5 i x hx
  subst ea
  exact ⟨b, o, c, cs, e, hl, hc, hr⟩
end
theorem flat_get {size : Nat} : ∀ (css : List (List Value)), (∀ cs ∈ css, cs.length = size) → ∀ (i j : Nat) (cs : List Value), css[i]? = some cs → j < size → css.flatten[i * size + j]? = cs[j]?
  | [], _, i, j, cs, h, _ => by simp at h
  | c :: r, hs, i, j, cs, h, hj => by
    have hc : c.length = size := hs c (by simp)
    match i with
    | 0 =>
      simp only [List.getElem?_cons_zero, Option.some.injEq] at h
      subst h
      rw [List.flatten_cons, List.getElem?_append_left (by omega), Nat.zero_mul, Nat.zero_add]
    | i + 1 =>
      rw [List.getElem?_cons_succ] at h
      rw [List.flatten_cons, List.getElem?_append_right (by rw [hc, Nat.succ_mul]; omega)]
      rw [show (i + 1) * size + j - c.length = i * size + j from by rw [hc, Nat.succ_mul]; omega]
      exact flat_get r (fun x hx => hs x (List.mem_cons_of_mem _ hx)) i j cs h hj
theorem flat_length {size : Nat} : ∀ (css : List (List Value)), (∀ cs ∈ css, cs.length = size) → css.flatten.length = css.length * size
  | [], _ => by simp
  | c :: r, hs => by
    rw [List.flatten_cons, List.length_append, hs c (by simp), flat_length r (fun x hx => hs x (List.mem_cons_of_mem _ hx)), List.length_cons, Nat.succ_mul]
    omega
def OwnR {α : Type} (base : Nat) (T : TypeId) (size : Nat) (R : World → List Value → α → Prop) (w : World) (v : Value) (l : List α) : Prop :=
  ∃ css : List (List Value), css.length = l.length ∧ (∀ cs ∈ css, cs.length = size) ∧ (∀ (i : Nat) (cs : List Value) (x : α), css[i]? = some cs → l[i]? = some x → R w cs x) ∧ w.ownsRow base T size v l.length css.flatten
section
variable {α : Type} {base : Nat} {size : Nat} {T : TypeId} {R : World → List Value → α → Prop} {w w' : World} {v : Value} {l : List α}
theorem OwnR.nil (w : World) (base : Nat) (T : TypeId) (size : Nat) (R : World → List Value → α → Prop) : OwnR base T size R w (.slice none 0 0) [] :=
  ⟨[], rfl, by simp, by simp, World.ownsRow_nil _ _ _ _⟩
theorem OwnR.own (h : OwnR base T size R w v l) : ∃ xs, w.ownsRow base T size v l.length xs := by
  obtain ⟨css, _, _, _, h⟩ := h
  exact ⟨_, h⟩
theorem OwnR.slice (h : OwnR base T size R w v l) : ∃ ao c, v = .slice ao l.length c ∧ l.length ≤ c ∧ c ≤ 9223372036854775807 ∧ (ao = none → c = 0) := by
  obtain ⟨css, _, _, _, h⟩ := h
  exact owns_slice h
theorem OwnR.mono (hR : Kept R) (h : OwnR base T size R w v l) (hb : Below w.heap.size w w') : OwnR base T size R w' v l := by
  obtain ⟨css, h1, h2, h3, h4⟩ := h
  exact ⟨css, h1, h2, fun i cs x hc hx => hR _ _ _ _ (h3 i cs x hc hx) (.of_below hb), owns_below h4 hb⟩
theorem OwnR.onlyT (hR : Kept R) {t : TypeId} (h : OwnR base T size R w v l) (ho : OnlyT t w w') (hne : t ≠ T) (hd : t ≠ 108 ∧ t ≠ 150) : OwnR base T size R w' v l := by
  obtain ⟨css, h1, h2, h3, h4⟩ := h
  exact ⟨css, h1, h2, fun i cs x hc hx => hR _ _ _ _ (h3 i cs x hc hx) (.of_only ho hd), owns_other h4 ho hne⟩
theorem OwnR.grown (hR : Kept R) (h : OwnR base T size R w v l) {row : Option Nat} (hg : w.grownBy w' row) (hne : v.ownBlock = none ∨ v.ownBlock ≠ row) (hk : KeepD w w') : OwnR base T size R w' v l := by
  obtain ⟨css, h1, h2, h3, h4⟩ := h
  exact ⟨css, h1, h2, fun i cs x hc hx => hR _ _ _ _ (h3 i cs x hc hx) hk, h4.kept hg hne⟩
theorem OwnR.rows (h : OwnR base T size R w v l) : Rows size T R w v l := by
  obtain ⟨css, h1, h2, h3, h4⟩ := h
  obtain ⟨ao, c, e, hc1, hc2, hc3⟩ := owns_slice h4
  subst e
  refine ⟨ao, c, rfl, hc1, hc2, hc3, fun a ea hn => ?_, fun i x hx => ?_⟩
  · exact owns_ty h4 (by rw [ea]; rfl)
  · have hi : i < l.length := (List.getElem?_eq_some_iff.1 hx).1
    obtain ⟨g, c', hv, _, _⟩ := h4.form (by omega)
    injection hv with hv _ _
    subst hv
    have hcs : css[i]? = some (css[i]'(by omega)) := List.getElem?_eq_getElem (by omega)
    refine ⟨g, 0, css[i]'(by omega), rfl, h2 _ (List.getElem_mem _), fun j u hu => ?_, h3 i _ x hcs hx⟩
    have hj : j < size := by
      have := (List.getElem?_eq_some_iff.1 hu).1
      rw [h2 _ (List.getElem_mem _)] at this
      exact this
    have hf := flat_get css h2 i j _ hcs hj
    rw [hu] at hf
    have := h4.cells (g := g) rfl _ _ hf
    rw [add_plain, ← Nat.add_assoc] at this
    exact this
theorem OwnR.push (hR : Kept R) {css : List (List Value)} (h1 : css.length = l.length) (h2 : ∀ cs ∈ css, cs.length = size) (h3 : ∀ (i : Nat) (cs : List Value) (x : α), css[i]? = some cs → l[i]? = some x → R w cs x) {v' : Value} {cs : List Value} {x : α} (hl : cs.length = size) (hx : R w cs x)
    (hown : w'.ownsRow base T size v' (l.length + 1) (css.flatten ++ cs)) (hk : KeepD w w') : OwnR base T size R w' v' (l ++ [x]) := by
  refine ⟨css ++ [cs], by simp [h1], ?_, ?_, ?_⟩
  · intro c hc
    rcases List.mem_append.1 hc with h | h
    · exact h2 c h
    · simp at h; rw [h]; exact hl
  · intro i c y hc hy
    by_cases hi : i < l.length
    · rw [List.getElem?_append_left (by omega)] at hc
      rw [List.getElem?_append_left hi] at hy
      exact hR _ _ _ _ (h3 i c y hc hy) hk
    · have hi' : i = l.length := by
        have := (List.getElem?_eq_some_iff.1 hy).1
        simp at this
        omega
      subst hi'
      rw [List.getElem?_append_right (by omega), h1] at hc
      rw [List.getElem?_append_right (Nat.le_refl _)] at hy
      simp at hc hy
      subst hc hy
      exact hR _ _ _ _ hx hk
  · simpa using hown
end
end Go.Proofs.YtbnomdlojmgigaaGreat
namespace Go.Proofs.YtbnomdlojmgigaaGreat
abbrev Pt := Int × Int
def ptZ (l : List Pt) (i : Nat) : Pt := l.getD i (0, 0)
def crZ (a b : Pt) : Int := a.1 * b.2 - a.2 * b.1
def dtZ (a b : Pt) : Int := a.1 * b.1 + a.2 * b.2
def mnZ (a b : Pt) : Pt := (a.1 - b.1, a.2 - b.2)
def sgZ (n : Int) : Int := if n < 0 then -1 else if 0 < n then 1 else 0
def sdZ (a b c : Pt) : Int := sgZ (crZ (mnZ b a) (mnZ c a))
def tnZ (a b c : Pt) : Int := (b.1 - a.1) * (c.2 - a.2) - (b.2 - a.2) * (c.1 - a.1)
def hsZ (a b q : Pt) : Bool := decide (sdZ a b q = 0) && decide (dtZ (mnZ a q) (mnZ b q) ≤ 0)
def onZ (a b c : Pt) : Bool := decide (tnZ a b c = 0) && (decide (min a.1 b.1 ≤ c.1) && (decide (c.1 ≤ max a.1 b.1) && (decide (min a.2 b.2 ≤ c.2) && decide (c.2 ≤ max a.2 b.2))))
def meZ (a b c d : Pt) : Bool := (hsZ a b c || (hsZ a b d || (hsZ c d a || hsZ c d b))) || (decide (sdZ a b c * sdZ a b d < 0) && decide (sdZ c d a * sdZ c d b < 0))
def mtZ (a b c d : Pt) : Bool := (onZ a b c || (onZ a b d || (onZ c d a || onZ c d b))) || (decide (sgZ (tnZ a b c) * sgZ (tnZ a b d) < 0) && decide (sgZ (tnZ c d a) * sgZ (tnZ c d b) < 0))
end Go.Proofs.YtbnomdlojmgigaaGreat
namespace Go.Proofs.YtbnomdlojmgigaaGreat
def rtB (p : Pt) : Bool := decide (-1048576 ≤ p.1) && decide (p.1 ≤ 1048576) && (decide (-1048576 ≤ p.2) && decide (p.2 ≤ 1048576))
def foldP (l : List Pt) (i : Nat) : Bool :=
  decide (crZ (mnZ (ptZ l ((i + l.length - 1) % l.length)) (ptZ l i)) (mnZ (ptZ l ((i + 1) % l.length)) (ptZ l i)) = 0) && decide (0 ≤ dtZ (mnZ (ptZ l ((i + l.length - 1) % l.length)) (ptZ l i)) (mnZ (ptZ l ((i + 1) % l.length)) (ptZ l i)))
def foldR (l : List Pt) (i : Nat) : Bool :=
  decide (tnZ (ptZ l i) (ptZ l ((i + 1) % l.length)) (ptZ l ((i + 1 + 1) % l.length)) = 0) && decide (0 ≤ dtZ (mnZ (ptZ l i) (ptZ l ((i + 1) % l.length))) (mnZ (ptZ l ((i + 1 + 1) % l.length)) (ptZ l ((i + 1) % l.length))))
def pairP (l : List Pt) (i k : Nat) : Bool := decide (i + 1 < k) && (!(decide (i = 0) && decide (k = l.length - 1)) && meZ (ptZ l i) (ptZ l ((i + 1) % l.length)) (ptZ l k) (ptZ l ((k + 1) % l.length)))
def pairR (l : List Pt) (i k : Nat) : Bool := decide (i + 2 ≤ k) && (decide ((k + 1) % l.length ≠ i) && mtZ (ptZ l i) (ptZ l ((i + 1) % l.length)) (ptZ l k) (ptZ l ((k + 1) % l.length)))
def badP (l : List Pt) (i : Nat) : Bool := foldP l i || (List.range l.length).any (pairP l i)
def badR (l : List Pt) (i : Nat) : Bool := foldR l i || (List.range l.length).any (pairR l i)
def chkE (l : List Pt) : Int := if l.length < 3 then 4 else if 16 < l.length then 4 else if l.all rtB = true then (if (List.range l.length).any (badP l) = true then 20 else 0) else 1
def valE (l : List Pt) : Int := if l.length < 3 then 4 else if 16 < l.length then 4 else if l.all rtB = true then (if (List.range l.length).any (badR l) = true then 20 else 0) else 1
end Go.Proofs.YtbnomdlojmgigaaGreat
namespace Go.Proofs.YtbnomdlojmgigaaGreat
open Go.RowKit Dg
def IP (_ : World) (cs : List Value) (x : Pt) : Prop := cs = [.int .i64 x.1, .int .i64 x.2]
def IE (_ : World) (cs : List Value) (x : Pt × Pt) : Prop := cs = [.int .i64 x.1.1, .int .i64 x.1.2, .int .i64 x.2.1, .int .i64 x.2.2]
theorem IP.kept : Kept IP := fun _ _ _ _ h _ => h
theorem IE.kept : Kept IE := fun _ _ _ _ h _ => h
abbrev Pts (w : World) (v : Value) (l : List Pt) : Prop := RowsI 2 IP w v l
abbrev Bxs (w : World) (v : Value) (l : List (Pt × Pt)) : Prop := RowsI 4 IE w v l
theorem pt_some {l : List Pt} {k : Nat} (h : k < l.length) : l[k]? = some (ptZ l k) := by
  unfold ptZ; rw [List.getD_eq_getElem?_getD, List.getElem?_eq_getElem h]; rfl
theorem lt_cell {w : World} {a : Addr} {v : Value} (h : w.cell? a = some v) : a.block < w.heap.size := by
  obtain ⟨o, ho, _⟩ := cells_of_cell h
  exact (Array.getElem?_eq_some_iff.1 ho).1
theorem rowI_open {α : Type} {size : Nat} {R : World → List Value → α → Prop} {w : World} {v : Value} {l : List α} (h : RowsI size R w v l) (hl : 0 < l.length) : ∃ b o c, v = .slice (some ⟨b, o, none⟩) l.length c ∧ l.length ≤ c ∧ c ≤ 9223372036854775807 := by
  obtain ⟨ao, c, e, h1, h2, h3⟩ := h.slice
  obtain ⟨b', o', c', cs, e', _⟩ := h.get (List.getElem?_eq_getElem hl)
  subst e
  injection e' with e1 _ _
  subst e1
  exact ⟨b', o', c, rfl, h1, h2⟩
theorem rowIP_at {w : World} {b o n c : Nat} {l : List Pt} (h : Pts w (.slice (some ⟨b, o, none⟩) n c) l) {k : Nat} (hk : k < l.length) :
    w.cell? ⟨b, o + k * 2, none⟩ = some (.int .i64 (ptZ l k).1) ∧ w.cell? ⟨b, o + k * 2 + 1, none⟩ = some (.int .i64 (ptZ l k).2) ∧ b < w.heap.size := by
  obtain ⟨b', o', c', cs, e, hlen, hat, rfl⟩ := h.get (pt_some hk)
  injection e with e1 _ _
  injection e1 with e1
  injection e1 with e2 e3 _
  subst e2 e3
  have h0 := hat 0 _ rfl
  exact ⟨h0, hat 1 _ rfl, lt_cell h0⟩
theorem rowIE_at {w : World} {b o n c : Nat} {l : List (Pt × Pt)} (h : Bxs w (.slice (some ⟨b, o, none⟩) n c) l) {k : Nat} (hk : k < l.length) :
    w.cell? ⟨b, o + k * 4, none⟩ = some (.int .i64 (l.getD k ((0, 0), (0, 0))).1.1) ∧ w.cell? ⟨b, o + k * 4 + 1, none⟩ = some (.int .i64 (l.getD k ((0, 0), (0, 0))).1.2) ∧ w.cell? ⟨b, o + k * 4 + 2, none⟩ = some (.int .i64 (l.getD k ((0, 0), (0, 0))).2.1) ∧
      w.cell? ⟨b, o + k * 4 + 3, none⟩ = some (.int .i64 (l.getD k ((0, 0), (0, 0))).2.2) ∧ b < w.heap.size := by
  have hx : l[k]? = some (l.getD k ((0, 0), (0, 0))) := by rw [List.getD_eq_getElem?_getD, List.getElem?_eq_getElem hk]; rfl
  obtain ⟨b', o', c', cs, e, hlen, hat, rfl⟩ := h.get hx
  injection e with e1 _ _
  injection e1 with e1
  injection e1 with e2 e3 _
  subst e2 e3
  have h0 := hat 0 _ rfl
  exact ⟨h0, hat 1 _ rfl, hat 2 _ rfl, hat 3 _ rfl, lt_cell h0⟩
def Wn (B x : Int) : Prop := -B ≤ x ∧ x ≤ B
theorem Wn.lit {B x : Int} (h : -B ≤ x) (k : x ≤ B) : Wn B x := ⟨h, k⟩
theorem Wn.mono {A B x : Int} (h : Wn A x) (hb : A ≤ B) : Wn B x := ⟨by have := h.1; omega, by have := h.2; omega⟩
theorem Wn.add {A B x y : Int} (h : Wn A x) (k : Wn B y) : Wn (A + B) (x + y) := ⟨by have := h.1; have := k.1; omega, by have := h.2; have := k.2; omega⟩
theorem Wn.sub {A B x y : Int} (h : Wn A x) (k : Wn B y) : Wn (A + B) (x - y) := ⟨by have := h.1; have := k.2; omega, by have := h.2; have := k.1; omega⟩
theorem Wn.neg {A x : Int} (h : Wn A x) : Wn A (-x) := ⟨by have := h.2; omega, by have := h.1; omega⟩
theorem Wn.nn {A x : Int} (h : Wn A x) : 0 ≤ A := by have := h.1; have := h.2; omega
theorem Wn.abs {A x : Int} (h : Wn A x) : (x.natAbs : Int) ≤ A := by have := h.1; have := h.2; omega
theorem Wn.of_abs {A x : Int} (h : (x.natAbs : Int) ≤ A) : Wn A x := ⟨by omega, by omega⟩
theorem Wn.mul {A B x y : Int} (h : Wn A x) (k : Wn B y) : Wn (A * B) (x * y) := by
  refine Wn.of_abs ?_
  rw [Int.natAbs_mul, Int.natCast_mul]
  exact Int.mul_le_mul h.abs k.abs (Int.natCast_nonneg _) h.nn
theorem Wn.min {A x y : Int} (h : Wn A x) (k : Wn A y) : Wn A (Min.min x y) := ⟨by have := h.1; have := k.1; omega, by have := h.2; have := k.2; omega⟩
theorem Wn.max {A x y : Int} (h : Wn A x) (k : Wn A y) : Wn A (Max.max x y) := ⟨by have := h.1; have := k.1; omega, by have := h.2; have := k.2; omega⟩
theorem Wn.wrap {A x : Int} (h : Wn A x) (hA : A ≤ 9223372036854775807) : IntKind.i64.wrap x = x := IntWalk.i64_in x (by have := h.1; have := h.2; omega)
theorem Wn.wsub {A B x y : Int} (h : Wn A x) (k : Wn B y) (hA : A + B ≤ 9223372036854775807) : IntKind.i64.wrap (x - y) = x - y := (h.sub k).wrap hA
theorem Wn.wadd {A B x y : Int} (h : Wn A x) (k : Wn B y) (hA : A + B ≤ 9223372036854775807) : IntKind.i64.wrap (x + y) = x + y := (h.add k).wrap hA
theorem Wn.wmul {A B x y : Int} (h : Wn A x) (k : Wn B y) (hA : A * B ≤ 9223372036854775807) : IntKind.i64.wrap (x * y) = x * y := (h.mul k).wrap hA
theorem Wn.lo {A B x : Int} (h : Wn A x) (hA : A ≤ B) : -B ≤ x := by have := h.1; omega
theorem Wn.lo64 {A x : Int} (h : Wn A x) (hA : A ≤ 9223372036854775807) : -9223372036854775808 ≤ x := by have := h.1; omega
theorem Wn.hi {A B x : Int} (h : Wn A x) (hA : A ≤ B) : x ≤ B := by have := h.2; omega
theorem Wn.out {A x : Int} (h : Wn A x) : -A ≤ x ∧ x ≤ A := h
abbrev WP (B : Int) (p : Pt) : Prop := Wn B p.1 ∧ Wn B p.2
theorem WP.mono {A B : Int} {p : Pt} (h : WP A p) (hb : A ≤ B) : WP B p := ⟨h.1.mono hb, h.2.mono hb⟩
theorem WP.mn {A B : Int} {p q : Pt} (h : WP A p) (k : WP B q) : WP (A + B) (mnZ p q) := ⟨h.1.sub k.1, h.2.sub k.2⟩
theorem WP.cr {A B : Int} {p q : Pt} (h : WP A p) (k : WP B q) : Wn (A * B + A * B) (crZ p q) := (h.1.mul k.2).sub (h.2.mul k.1)
theorem rt_wp {p : Pt} (h : rtB p = true) : WP 1048576 p := by
  unfold rtB at h
  simp only [Bool.and_eq_true, decide_eq_true_eq] at h
  exact ⟨h.1, h.2⟩
theorem WP.pt {B : Int} (hB : 0 ≤ B) {l : List Pt} (h : ∀ p ∈ l, WP B p) (k : Nat) : WP B (ptZ l k) := by
  by_cases hk : k < l.length
  · exact h _ (List.mem_of_getElem? (pt_some hk))
  · unfold ptZ; rw [List.getD_eq_getElem?_getD, List.getElem?_eq_none (by omega)]; exact ⟨⟨show -B ≤ (0 : Int) by omega, show (0 : Int) ≤ B by omega⟩, ⟨show -B ≤ (0 : Int) by omega, show (0 : Int) ≤ B by omega⟩⟩
theorem Bx.set2 {w : World} {g : Nat} {t : TypeId} {a b x y : Value} (h : Bx w g t #[a, b]) : Bx ((w.setCell ⟨g, 0, none⟩ x).setCell ⟨g, 1, none⟩ y) g t #[x, y] := (h.set 0 _ rfl).set 1 _ rfl
end Go.Proofs.YtbnomdlojmgigaaGreat
