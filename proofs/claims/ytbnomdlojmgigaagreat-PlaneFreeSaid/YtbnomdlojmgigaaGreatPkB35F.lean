/-
  The contract of plane's edges: what it hands back, and how that goes over whatever yield.
-/
import Derived.Test.YtbnomdlojmgigaaGreatPkB2F
import Derived.Test.YtbnomdlojmgigaaGreatPkB3F
import Derived.Test.YtbnomdlojmgigaaGreatPkB34F
import Derived.Test.YtbnomdlojmgigaaGreatPkB13F
import Derived.Test.YtbnomdlojmgigaaGreatPkB22F
import Derived.RangeFuncBox
import Derived.Deep.AppendLies
import Derived.OwnWalkIn
import Derived.Sort.CutIn
set_option linter.unusedSimpArgs false
set_option linter.unusedVariables false
set_option maxRecDepth 100000
set_option maxHeartbeats 16000000
namespace Go.Proofs.YtbnomdlojmgigaaGreat
open Go.RowKit Dg
attribute [local go_sem ↓] Go.wp_at_zero Go.wp_at_succ
def Kp (n : Nat) (W W' : World) : Prop := W.heap.size ≤ W'.heap.size ∧ ∀ b, n ≤ b → b < W.heap.size → TyB 31 W b → W'.heap[b]? = W.heap[b]?
theorem Kp.refl (n : Nat) (W : World) : Kp n W W := ⟨Nat.le_refl _, fun _ _ _ _ => rfl⟩
theorem Kp.ty {n : Nat} {A B : World} (h : Kp n A B) {b : Nat} (h1 : n ≤ b) (h2 : b < A.heap.size) (ht : TyB 31 A b) : TyB 31 B b := by
 obtain ⟨cs, fr, e⟩ := id ht
 exact ⟨cs, fr, (h.2 b h1 h2 ht).trans e⟩
theorem Kp.trans {n : Nat} {A B C : World} (h : Kp n A B) (k : Kp n B C) : Kp n A C := ⟨Nat.le_trans h.1 k.1, fun b hb hl ht => (k.2 b hb (by have := h.1; omega) (h.ty hb hl ht)).trans (h.2 b hb hl ht)⟩
theorem Kp.below {n : Nat} {A B C : World} (h : Kp n A B) (hb : Below B.heap.size B C) : Kp n A C := h.trans ⟨hb.size, fun b _ hl _ => hb.block b hl⟩
theorem kpJ (n : Nat) (A B : World) {C : World} (h : Kp n A B) (hb : Below B.heap.size B C) : Kp n A C := h.below hb
theorem Kp.gr {n : Nat} {A B C : World} {gs : List Nat} (h : Kp n A B) (hG : Gr gs B C) (hg : ∀ g ∈ gs, g < n ∨ A.heap.size ≤ g) : Kp n A C :=
 ⟨Nat.le_trans h.1 hG.size, fun b h1 h2 ht => (hG.block b (by have := h.1; omega) (fun hm => by have := hg b hm; omega)).trans (h.2 b h1 h2 ht)⟩
theorem Kp.gr1 {n : Nat} {A B C : World} {g : Nat} (h : Kp n A B) (hG : Gr [g] B C) (hg : g < n ∨ A.heap.size ≤ g) : Kp n A C := h.gr hG (fun x hx => by
 cases hx with
 | head => exact hg
 | tail _ h => cases h)
theorem Kp.only {n : Nat} {A B C : World} {T : TypeId} (h : Kp n A B) (ho : OnlyT T B C) (hT : T ≠ 31) (_ : True) : Kp n A C :=
 ⟨Nat.le_trans h.1 ho.size, fun b h1 h2 ht => (ho.block b (by have := h.1; omega) (fun h' => TyB.ne h' (h.ty h1 h2 ht) hT rfl)).trans (h.2 b h1 h2 ht)⟩
theorem Kp.putL {n : Nat} {A B : World} (h : Kp n A B) {l : Nat} (hb : l < n ∨ A.heap.size ≤ l) (o : Obj) : Kp n A (B.putObj l o) :=
 ⟨by rw [World.putObj_size]; exact h.1, fun q h1 h2 ht => (World.putObj_heap_other (by omega)).trans (h.2 q h1 h2 ht)⟩
structure AtB (b : Nat) (o : Obj) (W : World) : Prop where
 h : W.heap[b]? = some o
theorem atB (b : Nat) (o : Obj) (W : World) {W' : World} (h : AtB b o W) (hb : Below W.heap.size W W') : AtB b o W' := ⟨(hb.block b (Array.getElem?_eq_some_iff.1 h.h).1).trans h.h⟩
theorem AtB.gr {b : Nat} {o : Obj} {W W' : World} {gs : List Nat} (h : AtB b o W) (hG : Gr gs W W') (hn : b ∉ gs) : AtB b o W' := ⟨(hG.block b (Array.getElem?_eq_some_iff.1 h.h).1 hn).trans h.h⟩
theorem AtB.only {b : Nat} {o : Obj} {W W' : World} {T : TypeId} (h : AtB b o W) (ho : OnlyT T W W') (hc : o.isCells = false) : AtB b o W' := ⟨(ho.block b (Array.getElem?_eq_some_iff.1 h.h).1 (fun ⟨cs, fr, e⟩ => by
 have h' := h.h
 rw [e] at h'
 cases h'
 cases hc)).trans h.h⟩
theorem AtB.onlyL {b : Nat} {r : Loop} {W W' : World} {T : TypeId} (h : AtB b (.loop r) W) (ho : OnlyT T W W') (_ : True) (_ : True) : AtB b (.loop r) W' := h.only ho rfl
theorem AtB.onlyD {b : Nat} {r : Option (List Deferred)} {W W' : World} {T : TypeId} (h : AtB b (.deferred r) W) (ho : OnlyT T W W') (_ : True) (_ : True) : AtB b (.deferred r) W' := h.only ho rfl
def nxZ (l : List Pt) (k : Nat) : Pt := ptZ l ((k + 1) % l.length)
abbrev egV (a b : Pt) : Value := .agg #[.int .i64 a.1, .int .i64 a.2, .int .i64 b.1, .int .i64 b.2]
theorem tmod_nat (k n : Nat) : Int.tmod ((k : Int) + 1) (n : Int) = ((k + 1) % n : Nat) := by
 rw [Int.tmod_eq_emod_of_nonneg (by omega)]; simp
theorem pl_edges (ao : Option Addr) (n c : Nat) (w : World) : Calls Tryz.prog 61 #[.slice ao n c] w (fun e w' => e = .returned (.func (.func 103) #[] #[.pointer (some ⟨w.heap.size, 0, none⟩)]) ∧ Bx w' w.heap.size 22 #[.slice ao n c] ∧ Below w.heap.size w w') := by
 have hs := Below.refl w.heap.size w
 go_enter Tryz.func61, Tryz.ntmps61
 go_wp2
 go_ret
 exact ⟨rfl, Bx.new _ _ _, (Below.refl _ _).alloc (Nat.le_refl _) _⟩
theorem edg_in (lp bx : Nat) (v : Value) (l : List Pt) (J : Nat → World → Prop) (Jx : World → Prop) (w0 u : World) (hl : Pts w0 v l) (h2 : l.length ≤ 1000000000)
  (h0s : w0.heap.size ≤ u.heap.size)
  (hJw : ∀ k W, J k W → Below w0.heap.size w0 W ∧ W.cell? ⟨bx, 0, none⟩ = some v)
  (hXw : ∀ W, Jx W → Below w0.heap.size w0 W ∧ W.cell? ⟨bx, 0, none⟩ = some v)
  (hJb : ∀ k W W', J k W → Below W.heap.size W W' → J k W')
  (hXb : ∀ W W', Jx W → Below W.heap.size W W' → Jx W')
  (hY : ∀ k W, k < l.length → J k W → u.heap.size ≤ W.heap.size → YieldAt Fence.wide 0 Tryz.prog lp #[.int .i64 k, egV (ptZ l k) (nxZ l k)] W fun e W' =>
   Kp u.heap.size W W' ∧ ((e = .returned (.bool true) ∧ J (k + 1) W') ∨ (e = .returned (.bool false) ∧ Jx W')))
  (h0 : J 0 u) : Calls Tryz.prog 103 #[.func (.yield lp) #[] #[], .pointer (some ⟨bx, 0, none⟩)] u fun e W' => (∃ x, e = .returned x) ∧ (J l.length W' ∨ Jx W') := by
 obtain ⟨ao, cap, rfl, hc1, hc2, hc3⟩ := hl.slice
 have HL := Lib.hid hl
 have B1 := (hJw _ _ h0).2
 have hus : u.heap.size ≤ u.heap.size := Nat.le_refl _
 clear hl
 go_enter Tryz.func103, Tryz.ntmps103
 go_wp2
 go_loopw [7] (fun iv wq => ∃ k : Nat, k ≤ l.length ∧ iv = .int .i64 k ∧ u.heap.size ≤ wq.heap.size ∧ J k wq) (fun iv _ => l.length - (intOf iv).toNat)
 case atStart => exact ⟨0, Nat.zero_le _, rfl, hus, h0⟩
 case round =>
  clear h0 B1 hus
  obtain ⟨k, hk, rfl, hn, hJ⟩ := hrel
  by_cases hlt : k < l.length
  ·have Ba := (hJw _ _ hJ).1
   have B1 := (hJw _ _ hJ).2
   obtain ⟨bb, oo, cc, hv, -, -⟩ := rowI_open HL.out (by omega)
   injection hv with hv _ hv3
   subst hv hv3
   have hmm : (k + 1) % l.length < l.length := Nat.mod_lt _ (by omega)
   obtain ⟨E0, E1, hLb⟩ := rowIP_at HL.out hlt
   obtain ⟨N0, N1, -⟩ := rowIP_at HL.out hmm
   obtain ⟨m, Hm⟩ : ∃ m, m = (k + 1) % l.length := ⟨_, rfl⟩
   obtain ⟨a1, Ha1⟩ : ∃ x, x = (ptZ l k).1 := ⟨_, rfl⟩
   obtain ⟨a2, Ha2⟩ : ∃ x, x = (ptZ l k).2 := ⟨_, rfl⟩
   obtain ⟨b1, Hb1⟩ : ∃ x, x = (nxZ l k).1 := ⟨_, rfl⟩
   obtain ⟨b2, Hb2⟩ : ∃ x, x = (nxZ l k).2 := ⟨_, rfl⟩
   rw [show (ptZ l ((k + 1) % l.length)).1 = b1 from Hb1.symm] at N0
   rw [show (ptZ l ((k + 1) % l.length)).2 = b2 from Hb2.symm] at N1
   rw [← Ha1] at E0
   rw [← Ha2] at E1
   rw [← Hm] at hmm N0 N1
   have HE := Lib.hid (And.intro N0 N1)
   have hyk := hY k
   rw [show egV (ptZ l k) (nxZ l k) = .agg #[.int .i64 a1, .int .i64 a2, .int .i64 b1, .int .i64 b2] from by rw [Ha1, Ha2, Hb1, Hb2]] at hyk
   have B3 : IntKind.i64.wrap ((k : Int) + 1) = (k : Int) + 1 := IntWalk.i64_in _ (by omega)
   have B4 : Int.tmod ((k : Int) + 1) (l.length : Int) = (m : Int) := by rw [Hm]; exact tmod_nat _ _
   have B5 : IntKind.i64.wrap (m : Int) = (m : Int) := IntWalk.i64_in _ (by omega)
   have SW3 : (0 : Int) ≤ (m : Int) := by omega
   have SW4 : (m : Int) < (l.length : Int) := by omega
   have B6 : ((l.length : Int) == 0) = false := by rw [beq_eq_false_iff_ne]; omega
   have B7 : (l = []) = False := eq_false (fun e => by rw [e] at hlt; exact absurd hlt (by simp))
   replace B3 := Lib.hid B3
   replace B4 := Lib.hid B4
   replace B5 := Lib.hid B5
   replace B6 := Lib.hid B6
   replace B7 := Lib.hid B7
   clear Ha1 Ha2 Hb1 Hb2 Hm
   replace E0 := cellK E0 Ba
   replace E1 := cellK E1 Ba
   replace N0 := cellK N0 Ba
   replace N1 := cellK N1 Ba
   have bk1 : (0 : Int) ≤ (k : Int) := by omega
   have bk4 : (k : Int) < (l.length : Int) := by omega
   go_wp2_with fail
   refine Code.abs ?_
   intro w1 hW
   have hb : Below wr.heap.size wr w1 := by rw [hW]; exact (Below.refl _ _).alloc (Nat.le_refl _) _
   have B2 : Bx w1 wr.heap.size 31 #[.int .i64 a1, .int .i64 a2] := by rw [hW]; exact Bx.new _ _ _
   replace hJ := hJb _ _ _ hJ hb
   replace N0 := cellK N0 hb
   replace N1 := cellK N1 hb
   replace B1 := cellK B1 hb
   have hn1 : u.heap.size ≤ w1.heap.size := Nat.le_trans hn hb.size
   clear hW hb E0 E1 Ba
   refine (wpIn_wide (n := 1)).1 ?_
   refine UI_region (S := fun w' => w'.cell? ⟨wr.heap.size, 0, none⟩ = some (.int .i64 a1) ∧ w'.cell? ⟨wr.heap.size, 1, none⟩ = some (.int .i64 a2) ∧ w'.cell? ⟨bx, 0, none⟩ = some (.slice (some ⟨bb, oo, none⟩) l.length cap) ∧ w'.cell? ⟨bb, oo + m * 2, none⟩ = some (.int .i64 b1) ∧ w'.cell? ⟨bb, oo + m * 2 + 1, none⟩ = some (.int .i64 b2)) (by kernel_rfl) 14 ?_
   refine AnyUI.abs ?_
   intro w2 hW
   have hb : Below w1.heap.size w1 w2 := by rw [hW]; exact bDrew _
   replace B2 := B2.mono hb
   replace hJ := hJb _ _ _ hJ hb
   replace N0 := cellK N0 hb
   replace N1 := cellK N1 hb
   replace B1 := cellK B1 hb
   have hn2 : u.heap.size ≤ w2.heap.size := Nat.le_trans hn1 hb.size
   clear hW hb
   have B8 := B2.at 0 rfl
   have B9 := B2.at 1 rfl
   have hH := (show w2.cell? ⟨wr.heap.size, 0, none⟩ = some (.int .i64 a1) ∧ w2.cell? ⟨wr.heap.size, 1, none⟩ = some (.int .i64 a2) ∧ w2.cell? ⟨bx, 0, none⟩ = some (.slice (some ⟨bb, oo, none⟩) l.length cap) ∧ w2.cell? ⟨bb, oo + m * 2, none⟩ = some (.int .i64 b1) ∧ w2.cell? ⟨bb, oo + m * 2 + 1, none⟩ = some (.int .i64 b2) from ⟨B8, B9, B1, N0, N1⟩)
   refine UI_take (i := 0) (v := ?_) (by kernel_rfl) rfl (by kernel_rfl) (by kernel_rfl) (by kernel_rfl) (by kernel_rfl) (fun _ _ _ h => h) (Or.inl ⟨by rfl, ?_⟩) (fun _ => rfl) hH ?_
   rotate_left
   ·intro w B0
    try dsimp only at B0
    go_simp
    try with_reducible rfl
   try simp only [Act.put, List.setIfInBounds_toArray, List.set_cons_zero, List.set_cons_succ]
   refine UI_take (i := 1) (v := ?_) (by kernel_rfl) rfl (by kernel_rfl) (by kernel_rfl) (by kernel_rfl) (by kernel_rfl) (fun _ _ _ h => h) (Or.inl ⟨by rfl, ?_⟩) (fun _ => rfl) hH ?_
   rotate_left
   ·intro w B0
    try dsimp only at B0
    go_simp
    try with_reducible rfl
   try simp only [Act.put, List.setIfInBounds_toArray, List.set_cons_zero, List.set_cons_succ]
   refine UI_take (i := 2) (v := ?_) (by kernel_rfl) rfl (by kernel_rfl) (by kernel_rfl) (by kernel_rfl) (by kernel_rfl) (fun _ _ _ h => h) (Or.inl ⟨by rfl, ?_⟩) (fun _ => rfl) hH ?_
   rotate_left
   ·intro w B0
    try dsimp only at B0
    go_simp
    try with_reducible rfl
   try simp only [Act.put, List.setIfInBounds_toArray, List.set_cons_zero, List.set_cons_succ]
   refine UI_take (i := 3) (v := ?_) (by kernel_rfl) rfl (by kernel_rfl) (by kernel_rfl) (by kernel_rfl) (by kernel_rfl) (fun _ _ _ h => h) (Or.inl ⟨by rfl, ?_⟩) (fun _ => rfl) hH ?_
   rotate_left
   ·intro w B0
    try dsimp only at B0
    go_simp
    try with_reducible rfl
   try simp only [Act.put, List.setIfInBounds_toArray, List.set_cons_zero, List.set_cons_succ]
   refine UI_take (i := 4) (v := ?_) (by kernel_rfl) rfl (by kernel_rfl) (by kernel_rfl) (by kernel_rfl) (by kernel_rfl) (fun _ _ _ h => h) (Or.inl ⟨by rfl, ?_⟩) (fun _ => rfl) hH ?_
   rotate_left
   ·intro w B0
    try dsimp only at B0
    go_simp
    try with_reducible rfl
   try simp only [Act.put, List.setIfInBounds_toArray, List.set_cons_zero, List.set_cons_succ]
   refine UI_take (i := 5) (v := ?_) (by kernel_rfl) rfl (by kernel_rfl) (by kernel_rfl) (by kernel_rfl) (by kernel_rfl) (fun _ _ _ h => h) (Or.inl ⟨by rfl, ?_⟩) (fun _ => rfl) hH ?_
   rotate_left
   ·intro w B0
    try dsimp only at B0
    have q0 := B3.out
    have q1 := B4.out
    have q2 := B5.out
    have q5 := B6.out
    have q6 := B7.out
    go_simp
    try with_reducible rfl
   try simp only [Act.put, List.setIfInBounds_toArray, List.set_cons_zero, List.set_cons_succ]
   refine UI_take (i := 6) (v := ?_) (by kernel_rfl) rfl (by kernel_rfl) (by kernel_rfl) (by kernel_rfl) (by kernel_rfl) (fun _ _ _ h => h) (Or.inl ⟨by rfl, ?_⟩) (fun _ => rfl) hH ?_
   rotate_left
   ·intro w B0
    try dsimp only at B0
    go_simp
    try with_reducible rfl
   try simp only [Act.put, List.setIfInBounds_toArray, List.set_cons_zero, List.set_cons_succ]
   refine UI_take (i := 7) (v := ?_) (by kernel_rfl) rfl (by kernel_rfl) (by kernel_rfl) (by kernel_rfl) (by kernel_rfl) (fun _ _ _ h => h) (Or.inl ⟨by rfl, ?_⟩) (fun _ => rfl) hH ?_
   rotate_left
   ·intro w B0
    try dsimp only at B0
    go_simp
    try with_reducible rfl
   try simp only [Act.put, List.setIfInBounds_toArray, List.set_cons_zero, List.set_cons_succ]
   refine UI_take (i := 8) (v := ?_) (by kernel_rfl) rfl (by kernel_rfl) (by kernel_rfl) (by kernel_rfl) (by kernel_rfl) (fun _ _ _ h => h) (Or.inl ⟨by rfl, ?_⟩) (fun _ => rfl) hH ?_
   rotate_left
   ·intro w B0
    try dsimp only at B0
    have q0 := B3.out
    have q1 := B4.out
    have q2 := B5.out
    have q5 := B6.out
    have q6 := B7.out
    go_simp
    try with_reducible rfl
   try simp only [Act.put, List.setIfInBounds_toArray, List.set_cons_zero, List.set_cons_succ]
   refine UI_take (i := 9) (v := ?_) (by kernel_rfl) rfl (by kernel_rfl) (by kernel_rfl) (by kernel_rfl) (by kernel_rfl) (fun _ _ _ h => h) (Or.inl ⟨by rfl, ?_⟩) (fun _ => rfl) hH ?_
   rotate_left
   ·intro w B0
    try dsimp only at B0
    have q0 := B3.out
    have q1 := B4.out
    have q2 := B5.out
    have q5 := B6.out
    have q6 := B7.out
    go_simp
    try with_reducible rfl
   try simp only [Act.put, List.setIfInBounds_toArray, List.set_cons_zero, List.set_cons_succ]
   refine UI_take (i := 10) (v := ?_) (by kernel_rfl) rfl (by kernel_rfl) (by kernel_rfl) (by kernel_rfl) (by kernel_rfl) (fun _ _ _ h => h) (Or.inl ⟨by rfl, ?_⟩) (fun _ => rfl) hH ?_
   rotate_left
   ·intro w B0
    try dsimp only at B0
    have q0 := B3.out
    have q1 := B4.out
    have q2 := B5.out
    have q5 := B6.out
    have q6 := B7.out
    go_simp
    try with_reducible rfl
   try simp only [Act.put, List.setIfInBounds_toArray, List.set_cons_zero, List.set_cons_succ]
   refine UI_take (i := 11) (v := ?_) (by kernel_rfl) rfl (by kernel_rfl) (by kernel_rfl) (by kernel_rfl) (by kernel_rfl) (fun _ _ _ h => h) (Or.inl ⟨by rfl, ?_⟩) (fun _ => rfl) hH ?_
   rotate_left
   ·intro w B0
    try dsimp only at B0
    go_simp
    try with_reducible rfl
   try simp only [Act.put, List.setIfInBounds_toArray, List.set_cons_zero, List.set_cons_succ]
   clear hH
   refine UI_one (i := 12) (by kernel_rfl) rfl (fun K hK => ?_)
   refine Exists.elim (hyk w2 hlt hJ hn2) (fun fn hq => Exists.elim hq (fun tmps hq => Exists.elim hq (fun assign hq => Exists.elim hq (fun body hq => ?_))))
   obtain ⟨hyd, hRd⟩ := hq
   clear hyk
   go_simp
   refine hRd.mono ?_
   clear hRd hyd
   rintro e w3 ⟨hkp, hor⟩
   have Bl3 : Bx w3 wr.heap.size 31 #[.int .i64 a1, .int .i64 a2] := (hkp.2 _ hn B2.lt B2.ty).trans B2
   have hn3 : u.heap.size ≤ w3.heap.size := Nat.le_trans hn2 hkp.1
   replace B8 := Bl3.at 0 rfl
   replace B9 := Bl3.at 1 rfl
   have Bb : Below w0.heap.size w0 w3 ∧ w3.cell? ⟨bx, 0, none⟩ = some (.slice (some ⟨bb, oo, none⟩) l.length cap) := by
    rcases hor with ⟨-, h⟩ | ⟨-, h⟩
    ·exact hJw _ _ h
    exact hXw _ h
   replace B1 := Bb.2
   replace N0 := cellK HE.out.1 Bb.1
   replace N1 := cellK HE.out.2 Bb.1
   rcases hor with ⟨rfl, hJ3⟩ | ⟨rfl, hJ3⟩
   all_goals
    clear hJ hkp Bl3 Bb HE
    refine hK.out _ _ ⟨B8, B9, B1, N0, N1⟩ (fun hH => ?_)
    clear hK K
    try simp only [Act.put, List.setIfInBounds_toArray, List.set_cons_zero, List.set_cons_succ]
    refine UI_take (i := 13) (v := ?_) (by kernel_rfl) rfl (by kernel_rfl) (by kernel_rfl) (by kernel_rfl) (by kernel_rfl) (fun _ _ _ h => h) (Or.inl ⟨by rfl, ?_⟩) (fun _ => rfl) hH ?_
    rotate_left
    ·intro w B0
     try dsimp only at B0
     go_simp
     try with_reducible rfl
    try simp only [Act.put, List.setIfInBounds_toArray, List.set_cons_zero, List.set_cons_succ]
    clear hH
    refine UI_end (by kernel_rfl) ?_
    clear B8 B9 B1 N0 N1
   ·skip
    go_wp2
    go_roundw
    case rel => exact ⟨k + 1, by omega, by go_num, hn3, hJ3⟩
    all_goals first | (simp [intOf]; done) | (simp [intOf]; omega)
   skip
   go_wp2
   try simp only [Exit.inBlock, Exit.then]
   refine bodyPost_ret (results_none rfl _ _ _) rfl ?_
   exact ⟨⟨_, rfl⟩, .inr hJ3⟩
  obtain rfl : k = l.length := by omega
  go_wp2
  go_end0
  exact ⟨⟨_, rfl⟩, .inl hJ⟩
end Go.Proofs.YtbnomdlojmgigaaGreat
namespace Go.Proofs.YtbnomdlojmgigaaGreat
open Go Go.RowKit Dg
theorem putL_other {W : World} {l : Nat} {r r' : Loop} (hl : W.heap[l]? = some (.loop r)) {k : Nat} {t : TypeId} (h : TyB t W k) : (W.putObj l (.loop r')).heap[k]? = W.heap[k]? := by
  refine World.putObj_heap_other (fun e => ?_)
  subst e
  obtain ⟨cs, fr, h⟩ := h
  rw [hl] at h
  cases h
theorem Bx.putL {W : World} {l : Nat} {r r' : Loop} (hl : W.heap[l]? = some (.loop r)) {g : Nat} {t : TypeId} {cs : Array Value} (h : Bx W g t cs) : Bx (W.putObj l (.loop r')) g t cs := (putL_other hl h.ty).trans h
theorem KeepD.putL {W : World} {l : Nat} {r r' : Loop} (hl : W.heap[l]? = some (.loop r)) : KeepD W (W.putObj l (.loop r')) := ⟨by rw [World.putObj_size]; exact Nat.le_refl _, fun _ _ hk _ => putL_other hl hk⟩
theorem OwnR.putL {α : Type} {base : Nat} {size : Nat} {T : TypeId} {R : World → List Value → α → Prop} {W : World} {v : Value} {xs : List α} {l : Nat} {r r' : Loop} (hR : Kept R) (hl : W.heap[l]? = some (.loop r)) (h : OwnR base T size R W v xs) :
    OwnR base T size R (W.putObj l (.loop r')) v xs := by
  obtain ⟨css, h1, h2, h3, h4⟩ := h
  exact ⟨css, h1, h2, fun i cs x hc hx => hR _ _ _ _ (h3 i cs x hc hx) (.putL hl), ownsRow_putObj h4 _ hl rfl⟩
theorem OwnR.putD {α : Type} {base : Nat} {size : Nat} {T : TypeId} {R : World → List Value → α → Prop} {W : World} {v : Value} {xs : List α} {D : Nat} {o o' : Obj} (hR : Kept R) (hD : W.heap[D]? = some o) (ho : o.isCells = false) (h : OwnR base T size R W v xs) :
    OwnR base T size R (W.putObj D o') v xs := by
  obtain ⟨css, h1, h2, h3, h4⟩ := h
  refine ⟨css, h1, h2, fun i cs x hc hx => hR _ _ _ _ (h3 i cs x hc hx) ⟨by rw [World.putObj_size]; exact Nat.le_refl _, fun k t hk _ => World.putObj_heap_other (fun e => ?_)⟩, ownsRow_putObj h4 _ hD ho⟩
  subst e
  obtain ⟨cs, fr, hk⟩ := hk
  rw [hD] at hk
  cases hk
  cases ho
theorem Bx.putD {W : World} {D : Nat} {ds : Option (List Deferred)} {o' : Obj} {g : Nat} {t : TypeId} {cs : Array Value} (h : Bx W g t cs) (hD : W.heap[D]? = some (.deferred ds)) : Bx (W.putObj D o') g t cs := (World.putObj_heap_other (fun e => by
  subst e
  have h' : W.heap[g]? = _ := h
  rw [hD] at h'
  cases h')).trans h
theorem BoxP.mono {w w' : World} {g : Nat} {x : Rat} (h : BoxP w g x) (hb : Below w.heap.size w w') : BoxP w' g x := by
  obtain ⟨s, a, n, c, A, N, C, h1, h2⟩ := h
  exact ⟨s, a, n, c, A, N, C, h1.mono hb, h2.mono hb⟩
theorem BoxP.putL {W : World} {l : Nat} {r r' : Loop} (hl : W.heap[l]? = some (.loop r)) {g : Nat} {x : Rat} (h : BoxP W g x) : BoxP (W.putObj l (.loop r')) g x := by
  obtain ⟨s, a, n, c, A, N, C, h1, h2⟩ := h
  exact ⟨s, a, n, c, A, N, C, h1.putL hl, h2.keep (.putL hl)⟩
theorem blockK {W W' : World} {k : Nat} {o : Obj} (h : W.heap[k]? = some o) (hb : Below W.heap.size W W') : W'.heap[k]? = some o := (hb.block k (Array.getElem?_eq_some_iff.1 h).1).trans h
end Go.Proofs.YtbnomdlojmgigaaGreat
namespace Go.Proofs.YtbnomdlojmgigaaGreat
open Go Go.RowKit Dg
theorem callsR {f : FuncId} {args : Array Value} {w : World} {R : Ending → World → Prop} {l n : Nat} (h : Calls Tryz.prog f args w R) : CallsIn (Fence.wide.inRound l) n Tryz.prog f args w R := (callsIn_wide.2 h).inRound l
theorem CallsIn.absI {F : Fence} {n : Nat} {P : Program} {f : FuncId} {args : Array Value} {w : World} {R : Ending → World → Prop} (h : ∀ w', w' = w → CallsIn F n P f args w' R) : CallsIn F n P f args w R := h w rfl
theorem Code.absI {F : Fence} {n : Nat} {P : Program} {c : Code} {Q : Exit → Act → World → Prop} {a : Act} {w : World} (h : ∀ w', w' = w → c.wpIn F n P Q a w') : c.wpIn F n P Q a w := h w rfl
theorem wpIn_room {P : Program} {c : Code} {Q : Exit → Act → World → Prop} {a : Act} {w : World} {l n m : Nat} (h : c.wpIn (Fence.wide.inRound l) n P Q a w) : c.wpIn (Fence.wide.inRound l) m P Q a w := fun b k cs hr hf _ => h b k cs hr hf (fun d hd => by cases hd)
def endE (lp : Nat) (B0 : LoopState → Option Code → Loop) (w0 : World) (bx : Nat) (v : Value) (n1 : Nat) (W : World) (I : Nat → World → Prop) (Ir : Code → World → Prop) (k : Nat) (e : Exit) (W3 : World) : Prop :=
  W3.heap[lp]? = some (.loop (B0 .busy none)) ∧ Below w0.heap.size w0 W3 ∧ Bx W3 bx 22 #[v] ∧ Kp n1 W W3 ∧
    match e with
    | .normal => I (k + 1) W3
    | .ret => Ir .ret W3
    | .exit id => Ir (.exit id) W3
    | _ => False
structure Stay (n : Nat) (I : World → Prop) : Prop where
  b : ∀ W W', I W → Below W.heap.size W W' → I W'
  p : ∀ W l r r', n ≤ l → I W → W.heap[l]? = some (.loop r) → I (W.putObj l (.loop r'))
theorem Stay.and {n : Nat} {I J : World → Prop} (h : Stay n I) (k : Stay n J) : Stay n (fun W => I W ∧ J W) :=
  ⟨fun W W' hI hb => ⟨h.b W W' hI.1 hb, k.b W W' hI.2 hb⟩, fun W l r r' hl hI hp => ⟨h.p W l r r' hl hI.1 hp, k.p W l r r' hl hI.2 hp⟩⟩
theorem Stay.bx (n : Nat) {g : Nat} {t : TypeId} {cs : Array Value} : Stay n (fun W => Bx W g t cs) := ⟨fun _ _ h hb => h.mono hb, fun _ _ _ _ _ h hp => h.putL hp⟩
theorem Stay.below {n n0 : Nat} {w : World} (h : n0 ≤ n) (hw : n0 ≤ w.heap.size) (_ : n0 = w.heap.size := by rfl) : Stay n (fun W => Below n0 w W) := by
  rename_i e; subst e
  exact ⟨fun _ _ h hb => bStep h hb, fun W l r r' hl h2 hp => h2.trans (belowK_b (Nat.le_refl _) W l _ _ (by omega) hp rfl rfl)⟩
theorem Stay.prop (n : Nat) (p : Prop) : Stay n (fun _ => p) := ⟨fun _ _ h _ => h, fun _ _ _ _ _ h _ => h⟩
theorem Stay.blk {n g : Nat} {o : Obj} (h : g < n) : Stay n (fun W => W.heap[g]? = some o) := ⟨fun _ _ h hb => blockK h hb, fun W l r r' hl h2 hp => (World.putObj_heap_other (by omega)).trans h2⟩
theorem Stay.atB {n b : Nat} {o : Obj} (h : b < n) : Stay n (fun W => AtB b o W) := ⟨fun _ _ h hb => Go.Proofs.YtbnomdlojmgigaaGreat.atB _ _ _ h hb, fun W l r r' hl h2 hp => ⟨(World.putObj_heap_other (by omega)).trans h2.h⟩⟩
theorem Stay.kp {n m : Nat} {A : World} (h : A.heap.size ≤ n) : Stay n (fun W => Kp m A W) := ⟨fun W W' h hb => h.below hb, fun W l r r' hl h2 hp => h2.putL (.inr (by omega)) _⟩
section
variable {ps : Array Tmp} {assign body : Code} {Q : Exit → Act → World → Prop} {a : Act} {w : World} {g : Operand}
theorem edgesR (bx : Nat) (v : Value) (l : List Pt) (w0 : World) (I : Nat → World → Prop) (Ir : Code → World → Prop)
    (hg : a.eval g = .func (.func 103) #[] #[.pointer (some ⟨bx, 0, none⟩)]) (hps : ps.size = 2)
    (hl : Pts w0 v l) (h2 : l.length ≤ 1000000000) (hb0 : Below w0.heap.size w0 w) (Blx : Bx w bx 22 #[v])
    (hI : ∀ k, Stay w.heap.size (I k)) (hIr : ∀ c, Stay w.heap.size (Ir c)) (h0 : I 0 w)
    (hbody : ∀ (B0 : LoopState → Option Code → Loop) (lp k : Nat) (W : World) (R : Ending → World → Prop), w.heap.size < lp → lp < w.heap.size + 2 → k < l.length → w.heap.size + 2 ≤ W.heap.size → W.heap[lp]? = some (.loop (B0 .ready none)) →
      Below w0.heap.size w0 W → Bx W bx 22 #[v] → I k W → W.heap[w.heap.size]? = some (.deferred (some [])) →
      (∀ e a W3, endE lp B0 w0 bx v (w.heap.size + 2) W I Ir k e W3 → W3.heap[w.heap.size]? = some (.deferred (some [])) → endJ lp B0 R e a W3) →
      assign.wpIn (Fence.wide.inRound lp) 0 Tryz.prog (Exit.then (fun a₁ w₁ => w₁.heap[lp]? = some (.loop (B0 .ready none)) ∧
          body.wpIn (Fence.wide.inRound lp) 0 Tryz.prog (endJ lp B0 R) a₁ (w₁.putObj lp (.loop (B0 .busy none)))) (fun _ _ _ => False))
          { tmps := (ps.zip #[.int .i64 k, egV (ptZ l k) (nxZ l k)]).foldl (fun t (p, v) => t.setIfInBounds p v) a.tmps, defers := [] } W)
    (hend : ∀ (D : Nat) (W : World), D = w.heap.size → w.heap.size + 2 ≤ W.heap.size → W.heap[D]? = some (.deferred (some [])) → Below w0.heap.size w0 W → I l.length W → Q .normal { a with defers := { target := .collected D, args := #[] } :: a.defers } W)
    (hret : ∀ (c : Code) (D : Nat) (W : World), D = w.heap.size → w.heap.size + 2 ≤ W.heap.size → W.heap[D]? = some (.deferred (some [])) → Below w0.heap.size w0 W → Ir c W → c.wp Tryz.prog Q { a with defers := { target := .collected D, args := #[] } :: a.defers } W) :
    (Code.rangeFunc g ps assign body).wp Tryz.prog Q a w := by
  refine (wpIn_wide (n := 2)).1 (rangeJointR rfl (by omega) (gf := 103) (lb := #[.pointer (some ⟨bx, 0, none⟩)]) hg trivial (enters_of Tryz.func103 (by kernel_rfl) rfl) ?_)
  intro B0 lp D W1 hlp hD B3 hyl
  have lx := Blx.lt
  have hn := hb0.size
  have n1 : W1.heap.size = w.heap.size + 2 := by rw [B3]; simp
  have hb : Below w.heap.size w W1 := by rw [B3]; exact ((Below.refl _ _).alloc (Nat.le_refl _) _).alloc (by simp) _
  have e1 : W1.heap[lp]? = some (.loop (B0 .ready none)) := by rw [B3, hlp]; have := World.alloc_heap_new (w.alloc (.deferred (some []))) (.loop (B0 .ready none)); rwa [World.size_alloc] at this
  have e2 : W1.heap[D]? = some (.deferred (some [])) := by rw [B3, hD]; exact (Below.heap_alloc _ _ _ (by simp)).trans (World.alloc_heap_new w _)
  have SB : Stay w.heap.size (fun W => Below w0.heap.size w0 W) := .below hn (Nat.le_refl _)
  have SX : Stay w.heap.size (fun W => Bx W bx 22 #[v]) := .bx _
  obtain ⟨JE, B1⟩ : ∃ JE : Nat → World → Prop, JE = fun k W => w.heap.size + 2 ≤ W.heap.size ∧ W.heap[lp]? = some (.loop (B0 .ready none)) ∧ W.heap[D]? = some (.deferred (some [])) ∧ Below w0.heap.size w0 W ∧ Bx W bx 22 #[v] ∧ I k W := ⟨_, rfl⟩
  obtain ⟨JX, B2⟩ : ∃ JX : World → Prop, JX = fun W => ∃ c, w.heap.size + 2 ≤ W.heap.size ∧ W.heap[lp]? = some (.loop (B0 .done (some c))) ∧ W.heap[D]? = some (.deferred (some [])) ∧ Below w0.heap.size w0 W ∧ Bx W bx 22 #[v] ∧ Ir c W := ⟨_, rfl⟩
  refine callsIn_wide.2 ?_
  refine (edg_in lp bx v l JE JX w0 W1 hl h2 (by omega) (fun k W h => ?_) (fun W h => ?_) (fun k W W' h hb => ?_) (fun W W' h hb => ?_) ?hy ?h0).mono ?done
  · subst B1; exact ⟨h.2.2.2.1, h.2.2.2.2.1.at 0 rfl⟩
  · subst B2; obtain ⟨c, h⟩ := h; exact ⟨h.2.2.2.1, h.2.2.2.2.1.at 0 rfl⟩
  · subst B1; obtain ⟨h1, h2, h3, h4, h5, h6⟩ := h; exact ⟨Nat.le_trans h1 hb.size, blockK h2 hb, blockK h3 hb, bStep h4 hb, h5.mono hb, (hI k).b _ _ h6 hb⟩
  · subst B2; obtain ⟨c, h1, h2, h3, h4, h5, h6⟩ := h; exact ⟨c, Nat.le_trans h1 hb.size, blockK h2 hb, blockK h3 hb, bStep h4 hb, h5.mono hb, (hIr c).b _ _ h6 hb⟩
  case h0 => subst B1; exact ⟨by omega, e1, e2, bStep hb0 hb, Blx.mono hb, (hI 0).b _ _ h0 hb⟩
  case hy =>
    intro k W hk hJ hnn
    have hJ' : w.heap.size + 2 ≤ W.heap.size ∧ W.heap[lp]? = some (.loop (B0 .ready none)) ∧ W.heap[D]? = some (.deferred (some [])) ∧ Below w0.heap.size w0 W ∧ Bx W bx 22 #[v] ∧ I k W := by rw [B1] at hJ; exact hJ
    obtain ⟨j1, j2, j3, j4, j5, j6⟩ := hJ'
    refine hyl #[_, _] W _ hps.symm j2 ?_
    refine hbody B0 lp k W _ (by omega) (by omega) hk j1 j2 j4 j5 j6 (by rw [← hD]; exact j3) ?_
    rintro e a3 W3 ⟨q1, q2, q3, q4, q5⟩ q6
    have z3 : w.heap.size + 2 ≤ W3.heap.size := Nat.le_trans j1 q4.1
    have hK : ∀ o, Kp W1.heap.size W (W3.putObj lp o) := fun o => by rw [n1]; exact q4.putL (.inl (by omega)) o
    have B5 : ∀ o, (W3.putObj lp o).heap.size = W3.heap.size := fun o => World.putObj_size
    have hD3 : ∀ o, (W3.putObj lp o).heap[D]? = some (.deferred (some [])) := fun o => (World.putObj_heap_other (by omega)).trans (by rw [hD]; exact q6)
    have B4 : ∀ o, (W3.putObj lp o).heap[lp]? = some o := fun o => World.putObj_heap_same (by omega)
    cases e with
    | normal => exact ⟨q1, hK _, .inl ⟨rfl, by subst B1; exact ⟨by rw [B5]; exact z3, B4 _, hD3 _, SB.p _ _ _ _ (by omega) q2 q1, SX.p _ _ _ _ (by omega) q3 q1, (hI _).p _ _ _ _ (by omega) q5 q1⟩⟩⟩
    | ret => exact ⟨q1, hK _, .inr ⟨rfl, by subst B2; exact ⟨.ret, by rw [B5]; exact z3, B4 _, hD3 _, SB.p _ _ _ _ (by omega) q2 q1, SX.p _ _ _ _ (by omega) q3 q1, (hIr _).p _ _ _ _ (by omega) q5 q1⟩⟩⟩
    | exit id => exact ⟨q1, hK _, .inr ⟨rfl, by subst B2; exact ⟨.exit id, by rw [B5]; exact z3, B4 _, hD3 _, SB.p _ _ _ _ (by omega) q2 q1, SX.p _ _ _ _ (by omega) q3 q1, (hIr _).p _ _ _ _ (by omega) q5 q1⟩⟩⟩
    | goto t => exact q5.elim
    | panic ch => exact q5.elim
    | outgrown => exact q5.elim
  case done =>
    rintro e W5 ⟨⟨x, rfl⟩, hJ | hJ⟩
    · subst B1
      obtain ⟨j1, j2, j3, j4, j5, j6⟩ := hJ
      exact ⟨⟨_, rfl⟩, .inl ⟨j2, hend D _ hD (by rw [World.putObj_size]; exact j1) ((World.putObj_heap_other (by omega)).trans j3) (SB.p _ _ _ _ (by omega) j4 j2) ((hI _).p _ _ _ _ (by omega) j6 j2)⟩⟩
    · subst B2
      obtain ⟨c, j1, j2, j3, j4, j5, j6⟩ := hJ
      exact ⟨⟨_, rfl⟩, .inr ⟨c, j2, wpIn_wide.2 (hret c D _ hD (by rw [World.putObj_size]; exact j1) ((World.putObj_heap_other (by omega)).trans j3) (SB.p _ _ _ _ (by omega) j4 j2) ((hIr _).p _ _ _ _ (by omega) j6 j2))⟩⟩
theorem edgesN (bx : Nat) (v : Value) (l : List Pt) (w0 : World) (I : Nat → World → Prop) (Ir : Code → World → Prop) {l₀ : Nat} {r₀ : Loop}
    (hl₀ : w.heap[l₀]? = some (.loop r₀))
    (hg : a.eval g = .func (.func 103) #[] #[.pointer (some ⟨bx, 0, none⟩)]) (hps : ps.size = 2)
    (hl : Pts w0 v l) (h2 : l.length ≤ 1000000000) (hb0 : Below w0.heap.size w0 w) (Blx : Bx w bx 22 #[v])
    (hI : ∀ k, Stay w.heap.size (I k)) (hIr : ∀ c, Stay w.heap.size (Ir c)) (h0 : I 0 w)
    (hbody : ∀ (B0 : LoopState → Option Code → Loop) (lp k : Nat) (W : World) (R : Ending → World → Prop), w.heap.size ≤ lp → lp < w.heap.size + 1 → k < l.length → w.heap.size + 1 ≤ W.heap.size → W.heap[lp]? = some (.loop (B0 .ready none)) →
      Below w0.heap.size w0 W → Bx W bx 22 #[v] → I k W →
      (∀ e a W3, endE lp B0 w0 bx v (w.heap.size + 1) W I Ir k e W3 → endJ lp B0 R e a W3) →
      assign.wpIn (Fence.wide.inRound lp) 0 Tryz.prog (Exit.then (fun a₁ w₁ => w₁.heap[lp]? = some (.loop (B0 .ready none)) ∧
          body.wpIn (Fence.wide.inRound lp) 0 Tryz.prog (endJ lp B0 R) a₁ (w₁.putObj lp (.loop (B0 .busy none)))) (fun _ _ _ => False))
          { tmps := (ps.zip #[.int .i64 k, egV (ptZ l k) (nxZ l k)]).foldl (fun t (p, v) => t.setIfInBounds p v) a.tmps, defers := [] } W)
    (hend : ∀ (W : World), w.heap.size + 1 ≤ W.heap.size → Below w0.heap.size w0 W → I l.length W → Q .normal a W)
    (hret : ∀ (c : Code) (W : World), w.heap.size + 1 ≤ W.heap.size → Below w0.heap.size w0 W → Ir c W → c.wpIn (Fence.wide.inRound l₀) 0 Tryz.prog Q a W) :
    (Code.rangeFunc g ps assign body).wpIn (Fence.wide.inRound l₀) 0 Tryz.prog Q a w := by
  refine wpIn_room (n := 2) ?_
  refine rangeJointN rfl hl₀ (by omega) (gf := 103) (lb := #[.pointer (some ⟨bx, 0, none⟩)]) hg trivial (enters_of Tryz.func103 (by kernel_rfl) rfl) ?_
  intro B0 lp W1 hlp B3 hyl
  have lx := Blx.lt
  have hn := hb0.size
  have n1 : W1.heap.size = w.heap.size + 1 := by rw [B3]; simp
  have hb : Below w.heap.size w W1 := by rw [B3]; exact (Below.refl _ _).alloc (Nat.le_refl _) _
  have e1 : W1.heap[lp]? = some (.loop (B0 .ready none)) := by rw [B3, hlp]; exact World.alloc_heap_new w (.loop (B0 .ready none))
  have SB : Stay w.heap.size (fun W => Below w0.heap.size w0 W) := .below hn (Nat.le_refl _)
  have SX : Stay w.heap.size (fun W => Bx W bx 22 #[v]) := .bx _
  obtain ⟨JE, B1⟩ : ∃ JE : Nat → World → Prop, JE = fun k W => w.heap.size + 1 ≤ W.heap.size ∧ W.heap[lp]? = some (.loop (B0 .ready none)) ∧ Below w0.heap.size w0 W ∧ Bx W bx 22 #[v] ∧ I k W := ⟨_, rfl⟩
  obtain ⟨JX, B2⟩ : ∃ JX : World → Prop, JX = fun W => ∃ c, w.heap.size + 1 ≤ W.heap.size ∧ W.heap[lp]? = some (.loop (B0 .done (some c))) ∧ Below w0.heap.size w0 W ∧ Bx W bx 22 #[v] ∧ Ir c W := ⟨_, rfl⟩
  refine callsR ?_
  refine (edg_in lp bx v l JE JX w0 W1 hl h2 (by omega) (fun k W h => ?_) (fun W h => ?_) (fun k W W' h hb => ?_) (fun W W' h hb => ?_) ?hy ?h0).mono ?done
  · subst B1; exact ⟨h.2.2.1, h.2.2.2.1.at 0 rfl⟩
  · subst B2; obtain ⟨c, h⟩ := h; exact ⟨h.2.2.1, h.2.2.2.1.at 0 rfl⟩
  · subst B1; obtain ⟨h1, h2, h4, h5, h6⟩ := h; exact ⟨Nat.le_trans h1 hb.size, blockK h2 hb, bStep h4 hb, h5.mono hb, (hI k).b _ _ h6 hb⟩
  · subst B2; obtain ⟨c, h1, h2, h4, h5, h6⟩ := h; exact ⟨c, Nat.le_trans h1 hb.size, blockK h2 hb, bStep h4 hb, h5.mono hb, (hIr c).b _ _ h6 hb⟩
  case h0 => subst B1; exact ⟨by omega, e1, bStep hb0 hb, Blx.mono hb, (hI 0).b _ _ h0 hb⟩
  case hy =>
    intro k W hk hJ hnn
    have hJ' : w.heap.size + 1 ≤ W.heap.size ∧ W.heap[lp]? = some (.loop (B0 .ready none)) ∧ Below w0.heap.size w0 W ∧ Bx W bx 22 #[v] ∧ I k W := by rw [B1] at hJ; exact hJ
    obtain ⟨j1, j2, j4, j5, j6⟩ := hJ'
    refine hyl #[_, _] W _ hps.symm j2 ?_
    refine hbody B0 lp k W _ (by omega) (by omega) hk j1 j2 j4 j5 j6 ?_
    rintro e a3 W3 ⟨q1, q2, q3, q4, q5⟩
    have z3 : w.heap.size + 1 ≤ W3.heap.size := Nat.le_trans j1 q4.1
    have hK : ∀ o, Kp W1.heap.size W (W3.putObj lp o) := fun o => by rw [n1]; exact q4.putL (.inl (by omega)) o
    have B5 : ∀ o, (W3.putObj lp o).heap.size = W3.heap.size := fun o => World.putObj_size
    have B4 : ∀ o, (W3.putObj lp o).heap[lp]? = some o := fun o => World.putObj_heap_same (by omega)
    cases e with
    | normal => exact ⟨q1, hK _, .inl ⟨rfl, by subst B1; exact ⟨by rw [B5]; exact z3, B4 _, SB.p _ _ _ _ (by omega) q2 q1, SX.p _ _ _ _ (by omega) q3 q1, (hI _).p _ _ _ _ (by omega) q5 q1⟩⟩⟩
    | ret => exact ⟨q1, hK _, .inr ⟨rfl, by subst B2; exact ⟨.ret, by rw [B5]; exact z3, B4 _, SB.p _ _ _ _ (by omega) q2 q1, SX.p _ _ _ _ (by omega) q3 q1, (hIr _).p _ _ _ _ (by omega) q5 q1⟩⟩⟩
    | exit id => exact ⟨q1, hK _, .inr ⟨rfl, by subst B2; exact ⟨.exit id, by rw [B5]; exact z3, B4 _, SB.p _ _ _ _ (by omega) q2 q1, SX.p _ _ _ _ (by omega) q3 q1, (hIr _).p _ _ _ _ (by omega) q5 q1⟩⟩⟩
    | goto t => exact q5.elim
    | panic ch => exact q5.elim
    | outgrown => exact q5.elim
  case done =>
    rintro e W5 ⟨⟨x, rfl⟩, hJ | hJ⟩
    · subst B1
      obtain ⟨j1, j2, j4, j5, j6⟩ := hJ
      exact ⟨⟨_, rfl⟩, .inl ⟨j2, hend _ (by rw [World.putObj_size]; exact j1) (SB.p _ _ _ _ (by omega) j4 j2) ((hI _).p _ _ _ _ (by omega) j6 j2)⟩⟩
    · subst B2
      obtain ⟨c, j1, j2, j4, j5, j6⟩ := hJ
      exact ⟨⟨_, rfl⟩, .inr ⟨c, j2, wpIn_room (hret c _ (by rw [World.putObj_size]; exact j1) (SB.p _ _ _ _ (by omega) j4 j2) ((hIr _).p _ _ _ _ (by omega) j6 j2))⟩⟩
end
end Go.Proofs.YtbnomdlojmgigaaGreat
namespace Go.Proofs.YtbnomdlojmgigaaGreat
open Go Go.RowKit Dg
theorem wpListIn.stop {F : Fence} {n : Nat} {P : Program} {ops : Array Oper} {Q : Exit → Act → World → Prop} {l : List Oper} {a : Act} {w : World} (h : Stopped (wpListIn F n P ops Q l a w)) : wpListIn F n P ops Q l a w := h.out
theorem wpListIn.absI {F : Fence} {n : Nat} {P : Program} {ops : Array Oper} {Q : Exit → Act → World → Prop} {l : List Oper} {a : Act} {w : World} (h : ∀ w', w' = w → wpListIn F n P ops Q l a w') : wpListIn F n P ops Q l a w := h w rfl
theorem wpListIn_append_lies {F : Fence} {N : Nat} {P : Program} (w : World) {ops : Array Oper} {rest : List Oper} {o : Oper} {a : Act} {Q : Exit → Act → World → Prop} (hgd : o.guard = none) (s x : Operand) (t : TypeId)
    (ho : o.op = .call { callee := .builtin .append, args := #[s, x], argTypes := #[t, t] })
    (base : Nat) (e : TypeId) (i : TypeInfo) (z : Value) (size bytes : Nat) (ht : P.underlying t = some (.slice e)) (hi : P.info? e = some i) (hz : i.zero = some z)
    (hsize : i.size = size) (hby : i.bytes = bytes) (hzs : z.cells.size = size) (hsz : 0 < size)
    (v : Value) (n : Nat) (xs : List Value) (hs : a.eval s = v) (hown : w.ownsRow base e size v n xs)
    (ad : Addr) (m c : Nat) (news : List Value) (hx : a.eval x = .slice (some ad) m c) (hl : news.length = m * size) (hnews : ∀ j u, news[j]? = some u → w.cell? (ad.add j) = some u) (h1 : ∀ u ∈ news, u.oneCell' = true)
    (hm : 0 < m) (h63 : n + m ≤ maxLen) (hbytes : (n + m) * bytes ≤ 140737488355328) (hbase : base ≤ w.heap.size) (H : Nat) (hH : w.heap.size = H)
    (h : ∀ g B0 w', w'.ownsRow base e size (.slice (some ⟨g, 0, none⟩) (n + m) B0) (n + m) (xs ++ news) → w.grownBy w' v.ownBlock → (v.ownBlock = some g ∨ g = H) → g < w'.heap.size → wpListIn F N P ops Q rest (a.put o.dst (.slice (some ⟨g, 0, none⟩) (n + m) B0)) w') : wpListIn F N P ops Q (o :: rest) a w := by
  refine wpListIn_plain hgd fun K hK' => ?_
  obtain ⟨g, B0, w', hr, h2, h3, h4, h5⟩ := run_append_lies (P := P) w t o.type base e i z size bytes ht hi hz hsize hby hzs hsz v n xs hown ad m c news hl hnews h1 hm h63 hbytes hbase H hH
  unfold Oper.wpIn
  refine ⟨?_, ?_⟩
  · simp [Oper.about, ho, resolve, Target.leads, Sem.run_pure]
  · rw [Oper.semAt_plain F _ _ (by rw [ho]; intro c hc'; cases hc')]
    simp [execOp, ho, resolve, invoke, builtin, hs, hx, hr, Result.andThen]
    exact hK' _ _ (h g B0 w' h2 h3 h4 h5)
end Go.Proofs.YtbnomdlojmgigaaGreat
