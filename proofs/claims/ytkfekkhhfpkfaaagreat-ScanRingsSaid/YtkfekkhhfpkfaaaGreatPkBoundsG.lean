/-
  The contract of scan's boundaries: what it hands back, and how that goes over whatever yield.
-/
import Derived.Test.YtkfekkhhfpkfaaaGreatPkScanG
import Derived.Test.YtkfekkhhfpkfaaaGreatPkOpsG
import Derived.Test.YtkfekkhhfpkfaaaGreatPkHeldG
set_option linter.unusedSimpArgs false
set_option linter.unusedVariables false
set_option maxRecDepth 100000
set_option maxHeartbeats 16000000
namespace Go.Proofs.YtkfekkhhfpkfaaaGreat
open Go.RowKit Dg
attribute [local go_sem ↓] Go.wp_at_zero Go.wp_at_succ
theorem C3.openP {w : World} {cs : List Value} {x : Lay} (h : C3 PC w cs x) : ∃ g1 a1 n1 c1 A1 N1 D1 g2 a2 n2 c2 A2 N2 D2 g3 a3 n3 c3 A3 N3 D3,
    cs = [.bool g1, .slice a1 n1 c1, .slice A1 N1 D1, .bool g2, .slice a2 n2 c2, .slice A2 N2 D2, .bool g3, .slice a3 n3 c3, .slice A3 N3 D3] ∧
    PV w (.agg #[.bool g1, .slice a1 n1 c1, .slice A1 N1 D1]) x.1 ∧ PV w (.agg #[.bool g2, .slice a2 n2 c2, .slice A2 N2 D2]) x.2.1 ∧ PV w (.agg #[.bool g3, .slice a3 n3 c3, .slice A3 N3 D3]) x.2.2 := by
  obtain ⟨_, _, _, rfl, ⟨p1, p2, p3, rfl, h1⟩, ⟨q1, q2, q3, rfl, h2⟩, ⟨r1, r2, r3, rfl, h3⟩⟩ := h
  obtain ⟨g1, a1, n1, c1, A1, N1, D1, e⟩ := h1.shape
  obtain ⟨rfl, rfl, rfl⟩ := agg3 e
  obtain ⟨g2, a2, n2, c2, A2, N2, D2, e⟩ := h2.shape
  obtain ⟨rfl, rfl, rfl⟩ := agg3 e
  obtain ⟨g3, a3, n3, c3, A3, N3, D3, e⟩ := h3.shape
  obtain ⟨rfl, rfl, rfl⟩ := agg3 e
  exact ⟨_, _, _, _, _, _, _, _, _, _, _, _, _, _, _, _, _, _, _, _, _, rfl, h1, h2, h3⟩
theorem layAt_someP {l : List Lay} {k : Nat} (h : k < l.length) : l[k]? = some (layAt l k) := by unfold layAt; rw [List.getElem?_eq_getElem h]; rfl
theorem cut_world (n : Nat) (W : World) (h : n ≤ W.heap.size) : ∃ w : World, w.heap.size = n ∧ Below w.heap.size w W := by
  refine ⟨{ W with heap := W.heap.extract 0 n }, by simp; omega, ⟨rfl, rfl, rfl, by simp only [Array.size_extract]; omega, fun k hk => ?_⟩⟩
  simp only [Array.size_extract] at hk
  show W.heap[k]? = (W.heap.extract 0 n)[k]?
  rw [Array.getElem?_extract]
  simp; omega
theorem sc_boundaries (ao : Option Addr) (n c : Nat) (w : World) : Calls Tryz.prog 107 #[.slice ao n c] w (fun e w' => e = .returned (.func (.func 156) #[] #[.pointer (some ⟨w.heap.size, 0, none⟩)]) ∧ Bx w' w.heap.size 121 #[.slice ao n c] ∧ Below w.heap.size w w') := by
  have hs := Below.refl w.heap.size w
  go_enter Tryz.func107, Tryz.ntmps107
  go_wp2
  go_ret
  exact ⟨rfl, Bx.new _ _ _, (Below.refl _ _).alloc (Nat.le_refl _) _⟩
end Go.Proofs.YtkfekkhhfpkfaaaGreat
namespace Go.Proofs.YtkfekkhhfpkfaaaGreat
open Go.RowKit Dg
attribute [local go_sem ↓] Go.wp_at_zero Go.wp_at_succ
theorem bnd_in (lp bx : Nat) (v : Value) (l : List Lay) (B : Nat) (J : Nat → World → Prop) (w0 u : World) (hl : Rows 9 120 (C3 PC) w0 v l) (h1 : 2 ≤ l.length) (h2 : l.length ≤ 12) (hp : ∀ x ∈ l, layPos x = true) (hB : B ≤ 1000) (hz : ∀ x ∈ l, LaySz B x)
  (hbx : bx < u.heap.size) (h0s : w0.heap.size ≤ u.heap.size)
  (hJw : ∀ k W, J k W → Below w0.heap.size w0 W ∧ W.cell? ⟨bx, 0, none⟩ = some v)
  (hJb : ∀ k W W', J k W → Below W.heap.size W W' → J k W')
  (hJs : ∀ k W b, J k W → u.heap.size ≤ b → TyB 32 W b → ∀ j x, J k (W.setCell ⟨b, j, none⟩ x))
  (hY : ∀ k W vt vr, k + 1 < l.length → J k W → u.heap.size ≤ W.heap.size → PV W vt (tmQ l (k + 1)) → PV W vr (rfQ l k) → YieldAt Fence.wide 0 Tryz.prog lp #[vt, vr] W fun e W' =>
   e = .returned (.bool true) ∧ J (k + 1) W' ∧ KeepD W W' ∧ (∀ b, u.heap.size ≤ b → b < W.heap.size → (TyB 32 W b ∨ TyB 120 W b) → W'.heap[b]? = W.heap[b]?))
  (h0 : J 0 u) : Calls Tryz.prog 156 #[.func (.yield lp) #[] #[], .pointer (some ⟨bx, 0, none⟩)] u fun e W' => (∃ x, e = .returned x) ∧ J (l.length - 1) W' := by
 obtain ⟨ao, cap, rfl, hc1, hc2, hc3⟩ := hl.slice
 have hs := Below.refl u.heap.size u
 have HL := Lib.hid hl
 have HFT := Lib.hid (fun k (hk : k + 1 < l.length) => echo_fits hz hp hB h2 hk)
 have Bh := (hJw _ _ h0).2
 have S1 := IntWalk.i64_in ((l.length : Int) - 1) (by omega)
 have S2 : ((l.length : Int) - 1).toNat = l.length - 1 := by omega
 have S3 : (0 : Int) ≤ (l.length : Int) - 1 := by omega
 have S4 : ((l.length - 1 : Nat) : Int) = (l.length : Int) - 1 := by omega
 clear hl hp hz
 go_enter Tryz.func156, Tryz.ntmps156
 go_wp2_with fail
 refine Code.abs ?_
 intro w1 hW
 have B0 : Bx w1 u.heap.size 32 #[.bool false, .slice none 0 0, .slice none 0 0] := by rw [hW]; exact Bx.new _ _ _
 have hb : Below u.heap.size u w1 := by rw [hW]; exact (Below.refl _ _).alloc (Nat.le_refl _) _
 replace Bh := cellK Bh hb
 replace h0 := hJb _ _ _ h0 hb
 have Da := hb.size
 clear hW hb hs
 go_wp2
 go_loopw [12] (fun iv wq => ∃ k : Nat, k + 1 ≤ l.length ∧ iv = .int .i64 k ∧ u.heap.size < wq.heap.size ∧ J k wq ∧ BoxP wq u.heap.size (tmQ l k)) (fun iv _ => l.length - (intOf iv).toNat)
 case atStart => exact ⟨0, by omega, rfl, B0.lt, h0, ⟨_, _, _, _, _, _, _, B0, PV.zero _⟩⟩
 case round =>
  clear h0 B0 Bh
  obtain ⟨k, hk, rfl, hn, hJ, ⟨D9, D5, D8, D6, D2, D4, D3, B0, ht⟩⟩ := hrel
  obtain ⟨w, hw, hs⟩ := cut_world u.heap.size wr (by omega)
  by_cases hlt : k + 1 < l.length
  ·have hx := layAt_someP (show k < l.length by omega)
   have hy := layAt_someP hlt
   have Bk := (hJw _ _ hJ).1
   have Bh := (hJw _ _ hJ).2
   obtain ⟨Cg, Cr, dx, csx, hvx, Db, Bz, hcx⟩ := HL.out.get hx
   obtain ⟨rfl, rfl⟩ := sliceE hvx
   obtain ⟨Ck, Cd, Cn, Ch, C4, Ca, C7, Cl, Ce, Co, Ci, C5, Cb, C8, Cm, Cf, Cp, Cj, C6, Cc, C9, rfl, Bn, Bl, Bo⟩ := hcx.openP
   have Bm := Bz 0 _ rfl
   have Bq := Bz 1 _ rfl
   have Br := Bz 2 _ rfl
   have Bs := Bz 3 _ rfl
   have Bt := Bz 4 _ rfl
   have Bu := Bz 5 _ rfl
   have Bv := Bz 6 _ rfl
   have Bw := Bz 7 _ rfl
   have By := Bz 8 _ rfl
   obtain ⟨bby, oy, dy, csy, hvy, Dc, D1, hcy⟩ := HL.out.get hy
   obtain ⟨ey, rfl⟩ := sliceE hvy
   injection ey with ey
   injection ey with ey1 ey2
   subst ey1 ey2
   obtain ⟨gy1, ay1, ny1, cy1, Ay1, Ny1, Dy1, gy2, ay2, ny2, cy2, Ay2, Ny2, Dy2, gy3, ay3, ny3, cy3, Ay3, Ny3, Dy3, rfl, Bp, hy2, hy3⟩ := hcy.openP
   have Bg := D1 0 _ rfl
   have Bi := D1 1 _ rfl
   have Bj := D1 2 _ rfl
   simp only [Nat.add_zero] at Bm Bg
   clear Bz hcx Db D1 hcy Dc hy2 hy3
   have HE := Lib.hid (And.intro Bg (And.intro Bi Bj))
   replace Bm := cellK Bm Bk
   replace Bq := cellK Bq Bk
   replace Br := cellK Br Bk
   replace Bs := cellK Bs Bk
   replace Bt := cellK Bt Bk
   replace Bu := cellK Bu Bk
   replace Bv := cellK Bv Bk
   replace Bw := cellK Bw Bk
   replace By := cellK By Bk
   replace Bg := cellK Bg Bk
   replace Bi := cellK Bi Bk
   replace Bj := cellK Bj Bk
   replace Bn := Bn.mono Bk
   replace Bl := Bl.mono Bk
   replace Bo := Bo.mono Bk
   replace Bp := Bp.mono Bk
   clear Bk
   have hLx : Cg < w.heap.size := by have := HL.out.lt (by omega); omega
   have hLb : bx < w.heap.size := by omega
   obtain ⟨⟨f1, f2, f3, f4, f5, f6⟩, ⟨k1, k2, k3, k4, k5⟩, e1, e2, e3, e4⟩ := HFT.out k hlt
   have bk1 : (0 : Int) ≤ (k : Int) := by omega
   have bk2 : (k : Int) < (l.length : Int) - 1 := by omega
   have bk3 : (k : Int) + 1 < (l.length : Int) := by omega
   have bk4 : (k : Int) < (l.length : Int) := by omega
   have HNE := Lib.hid f4
   have HNE2 := Lib.hid k5
   clear f4 k5 hx hy
   go_wp2_with fail
   refine Code.abs ?_
   intro w1 hW
   have Da := hs.size
   have ls := B0.lt
   have B3 : Below w.heap.size wr w1 := by rw [hW]; exact (Below.alloc (Below.refl w.heap.size wr) (by first | exact hs.size | (have := hs.size; simp; done) | (have := hs.size; simp; omega)) _)
   have D7 : Below w.heap.size w w1 := hs.trans B3
   have hk : KeepD wr w1 := by rw [hW]; exact ((KeepD.refl _).alloc _)
   have Ct : Bx w1 (u.heap.size) 32 #[.bool D9, .slice D5 D8 D6, .slice D2 D4 D3] := by rw [hW]; exact (B0.alloc _)
   have Cu : Bx w1 (wr.heap.size) 120 #[.bool Ck, .slice Cd Cn Ch, .slice C4 Ca C7, .bool Cl, .slice Ce Co Ci, .slice C5 Cb C8, .bool Cm, .slice Cf Cp Cj, .slice C6 Cc C9] := by rw [hW]; exact (Bx.new' _ _ _ _ (by first | rfl | (simp; done)))
   replace hs := D7
   clear D7
   have Cq : J k w1 := by rw [hW]; exact (hJb _ _ _ hJ (Below.alloc (Below.refl _ _) (Nat.le_refl _) _))
   replace hJ := Cq
   clear Cq
   replace B0 := Ct
   clear Ct
   have B1 := Cu
   clear Cu
   replace Bn := Bn.keep hk
   replace Bl := Bl.keep hk
   replace Bo := Bo.keep hk
   replace Bp := Bp.keep hk
   replace ht := ht.keep hk
   replace Bm := cellB Bm B3 (by first | assumption | (show _ < _; omega))
   replace Bq := cellB Bq B3 (by first | assumption | (show _ < _; omega))
   replace Br := cellB Br B3 (by first | assumption | (show _ < _; omega))
   replace Bs := cellB Bs B3 (by first | assumption | (show _ < _; omega))
   replace Bt := cellB Bt B3 (by first | assumption | (show _ < _; omega))
   replace Bu := cellB Bu B3 (by first | assumption | (show _ < _; omega))
   replace Bv := cellB Bv B3 (by first | assumption | (show _ < _; omega))
   replace Bw := cellB Bw B3 (by first | assumption | (show _ < _; omega))
   replace By := cellB By B3 (by first | assumption | (show _ < _; omega))
   replace Bg := cellB Bg B3 (by first | assumption | (show _ < _; omega))
   replace Bi := cellB Bi B3 (by first | assumption | (show _ < _; omega))
   replace Bj := cellB Bj B3 (by first | assumption | (show _ < _; omega))
   replace Bh := cellB Bh B3 (by first | assumption | (show _ < _; omega))
   clear hW hk Da B3 ls
   have hz_w1 := B1.lt
   refine U_region (S := fun w' => w'.cell? ⟨u.heap.size, 0, none⟩ = some (.bool D9) ∧ w'.cell? ⟨u.heap.size, 1, none⟩ = some (.slice D5 D8 D6) ∧ w'.cell? ⟨u.heap.size, 2, none⟩ = some (.slice D2 D4 D3) ∧ w'.cell? ⟨wr.heap.size, 0, none⟩ = some (.bool Ck) ∧ w'.cell? ⟨wr.heap.size, 1, none⟩ = some (.slice Cd Cn Ch) ∧ w'.cell? ⟨wr.heap.size, 2, none⟩ = some (.slice C4 Ca C7) ∧ w'.cell? ⟨wr.heap.size, 3, none⟩ = some (.bool Cl) ∧ w'.cell? ⟨wr.heap.size, 4, none⟩ = some (.slice Ce Co Ci) ∧ w'.cell? ⟨wr.heap.size, 5, none⟩ = some (.slice C5 Cb C8) ∧ w'.cell? ⟨wr.heap.size, 6, none⟩ = some (.bool Cm) ∧ w'.cell? ⟨wr.heap.size, 7, none⟩ = some (.slice Cf Cp Cj) ∧ w'.cell? ⟨wr.heap.size, 8, none⟩ = some (.slice C6 Cc C9)) (by kernel_rfl) 10 ?_
   refine AnyU.abs ?_
   intro w2 hW
   have hb : Below w1.heap.size w1 w2 := by rw [hW]; exact bDrew _
   replace hs := bStep hs hb
   replace B0 := B0.mono hb
   replace B1 := B1.mono hb
   replace Bn := Bn.mono hb
   replace Bl := Bl.mono hb
   replace Bo := Bo.mono hb
   replace Bp := Bp.mono hb
   replace ht := ht.mono hb
   replace hJ := hJb _ _ _ hJ hb
   replace Bm := cellK Bm hb
   replace Bq := cellK Bq hb
   replace Br := cellK Br hb
   replace Bs := cellK Bs hb
   replace Bt := cellK Bt hb
   replace Bu := cellK Bu hb
   replace Bv := cellK Bv hb
   replace Bw := cellK Bw hb
   replace By := cellK By hb
   replace Bg := cellK Bg hb
   replace Bi := cellK Bi hb
   replace Bj := cellK Bj hb
   replace Bh := cellK Bh hb
   clear hb hW
   have B4 := B0.a0
   have B5 := B0.a1
   have B6 := B0.a2
   have B7 := B1.a0
   have B8 := B1.a1
   have B9 := B1.a2
   have Ba := B1.a3
   have Bb := B1.a4
   have Bc := B1.a5
   have Bd := B1.a6
   have Be := B1.a7
   have Bf := B1.a8
   have hH := (show w2.cell? ⟨u.heap.size, 0, none⟩ = some (.bool D9) ∧ w2.cell? ⟨u.heap.size, 1, none⟩ = some (.slice D5 D8 D6) ∧ w2.cell? ⟨u.heap.size, 2, none⟩ = some (.slice D2 D4 D3) ∧ w2.cell? ⟨wr.heap.size, 0, none⟩ = some (.bool Ck) ∧ w2.cell? ⟨wr.heap.size, 1, none⟩ = some (.slice Cd Cn Ch) ∧ w2.cell? ⟨wr.heap.size, 2, none⟩ = some (.slice C4 Ca C7) ∧ w2.cell? ⟨wr.heap.size, 3, none⟩ = some (.bool Cl) ∧ w2.cell? ⟨wr.heap.size, 4, none⟩ = some (.slice Ce Co Ci) ∧ w2.cell? ⟨wr.heap.size, 5, none⟩ = some (.slice C5 Cb C8) ∧ w2.cell? ⟨wr.heap.size, 6, none⟩ = some (.bool Cm) ∧ w2.cell? ⟨wr.heap.size, 7, none⟩ = some (.slice Cf Cp Cj) ∧ w2.cell? ⟨wr.heap.size, 8, none⟩ = some (.slice C6 Cc C9) from ⟨B4, B5, B6, B7, B8, B9, Ba, Bb, Bc, Bd, Be, Bf⟩)
   refine U_take (i := 0) (v := ?_) rfl (by kernel_rfl) (by kernel_rfl) (by kernel_rfl) (by kernel_rfl) (fun _ _ _ h => h) (Or.inl ⟨by rfl, ?_⟩) hH ?_
   rotate_left
   ·intro w B2
    try dsimp only at B2
    go_simp
    try with_reducible rfl
   try simp only [Act.put, List.setIfInBounds_toArray, List.set_cons_zero, List.set_cons_succ]
   refine U_take (i := 1) (v := ?_) rfl (by kernel_rfl) (by kernel_rfl) (by kernel_rfl) (by kernel_rfl) (fun _ _ _ h => h) (Or.inl ⟨by rfl, ?_⟩) hH ?_
   rotate_left
   ·intro w B2
    try dsimp only at B2
    go_simp
    try with_reducible rfl
   try simp only [Act.put, List.setIfInBounds_toArray, List.set_cons_zero, List.set_cons_succ]
   refine U_take (i := 2) (v := ?_) rfl (by kernel_rfl) (by kernel_rfl) (by kernel_rfl) (by kernel_rfl) (fun _ _ _ h => h) (Or.inl ⟨by rfl, ?_⟩) hH ?_
   rotate_left
   ·intro w B2
    try dsimp only at B2
    go_simp
    try with_reducible rfl
   try simp only [Act.put, List.setIfInBounds_toArray, List.set_cons_zero, List.set_cons_succ]
   refine U_take (i := 3) (v := ?_) rfl (by kernel_rfl) (by kernel_rfl) (by kernel_rfl) (by kernel_rfl) (fun _ _ _ h => h) (Or.inl ⟨by rfl, ?_⟩) hH ?_
   rotate_left
   ·intro w B2
    try dsimp only at B2
    go_simp
    try with_reducible rfl
   try simp only [Act.put, List.setIfInBounds_toArray, List.set_cons_zero, List.set_cons_succ]
   refine U_take (i := 4) (v := ?_) rfl (by kernel_rfl) (by kernel_rfl) (by kernel_rfl) (by kernel_rfl) (fun _ _ _ h => h) (Or.inl ⟨by rfl, ?_⟩) hH ?_
   rotate_left
   ·intro w B2
    try dsimp only at B2
    go_simp
    try with_reducible rfl
   try simp only [Act.put, List.setIfInBounds_toArray, List.set_cons_zero, List.set_cons_succ]
   refine U_take (i := 6) (v := ?_) rfl (by kernel_rfl) (by kernel_rfl) (by kernel_rfl) (by kernel_rfl) (fun _ _ _ h => h) (Or.inl ⟨by rfl, ?_⟩) hH ?_
   rotate_left
   ·intro w B2
    try dsimp only at B2
    go_simp
    try with_reducible rfl
   try simp only [Act.put, List.setIfInBounds_toArray, List.set_cons_zero, List.set_cons_succ]
   refine U_take (i := 7) (v := ?_) rfl (by kernel_rfl) (by kernel_rfl) (by kernel_rfl) (by kernel_rfl) (fun _ _ _ h => h) (Or.inl ⟨by rfl, ?_⟩) hH ?_
   rotate_left
   ·intro w B2
    try dsimp only at B2
    go_simp
    try with_reducible rfl
   try simp only [Act.put, List.setIfInBounds_toArray, List.set_cons_zero, List.set_cons_succ]
   clear hH
   refine U_one (i := 5) (by kernel_rfl) rfl (fun K hK => ?_)
   go_simp
   (with_reducible refine (pAdd Bl Bl f1 f1).mono ?_)
   rintro e w3 ⟨_, rfl, C0, hb⟩
   obtain ⟨shth, ahth, nhth, chth, Ahth, Nhth, Chth, rfl⟩ := C0.shape
   replace hs := bStep hs hb
   replace B0 := B0.mono hb
   replace B1 := B1.mono hb
   replace Bn := Bn.mono hb
   replace Bl := Bl.mono hb
   replace Bo := Bo.mono hb
   replace Bp := Bp.mono hb
   replace ht := ht.mono hb
   replace hJ := hJb _ _ _ hJ hb
   replace B4 := cellK B4 hb
   replace B5 := cellK B5 hb
   replace B6 := cellK B6 hb
   replace B7 := cellK B7 hb
   replace B8 := cellK B8 hb
   replace B9 := cellK B9 hb
   replace Ba := cellK Ba hb
   replace Bb := cellK Bb hb
   replace Bc := cellK Bc hb
   replace Bd := cellK Bd hb
   replace Be := cellK Be hb
   replace Bf := cellK Bf hb
   replace Bm := cellK Bm hb
   replace Bq := cellK Bq hb
   replace Br := cellK Br hb
   replace Bs := cellK Bs hb
   replace Bt := cellK Bt hb
   replace Bu := cellK Bu hb
   replace Bv := cellK Bv hb
   replace Bw := cellK Bw hb
   replace By := cellK By hb
   replace Bg := cellK Bg hb
   replace Bi := cellK Bi hb
   replace Bj := cellK Bj hb
   replace Bh := cellK Bh hb
   clear hb
   try go_wp2_with fail
   refine hK.out _ _ ⟨B4, B5, B6, B7, B8, B9, Ba, Bb, Bc, Bd, Be, Bf⟩ (fun hH => ?_)
   clear hK K
   try simp only [Act.put, List.setIfInBounds_toArray, List.set_cons_zero, List.set_cons_succ]
   clear hH
   refine U_one (i := 8) (by kernel_rfl) rfl (fun K hK => ?_)
   go_simp
   (with_reducible refine (sc_over _ _ _ _ _ C0 Bo f2 f3 HNE.out).mono ?_)
   rintro e w4 ⟨_, rfl, C1, hb⟩
   obtain ⟨shqt, ahqt, nhqt, chqt, Ahqt, Nhqt, Chqt, rfl⟩ := C1.shape
   replace hs := bStep hs hb
   replace B0 := B0.mono hb
   replace B1 := B1.mono hb
   replace Bn := Bn.mono hb
   replace Bl := Bl.mono hb
   replace Bo := Bo.mono hb
   replace Bp := Bp.mono hb
   replace ht := ht.mono hb
   replace C0 := C0.mono hb
   replace hJ := hJb _ _ _ hJ hb
   replace B4 := cellK B4 hb
   replace B5 := cellK B5 hb
   replace B6 := cellK B6 hb
   replace B7 := cellK B7 hb
   replace B8 := cellK B8 hb
   replace B9 := cellK B9 hb
   replace Ba := cellK Ba hb
   replace Bb := cellK Bb hb
   replace Bc := cellK Bc hb
   replace Bd := cellK Bd hb
   replace Be := cellK Be hb
   replace Bf := cellK Bf hb
   replace Bm := cellK Bm hb
   replace Bq := cellK Bq hb
   replace Br := cellK Br hb
   replace Bs := cellK Bs hb
   replace Bt := cellK Bt hb
   replace Bu := cellK Bu hb
   replace Bv := cellK Bv hb
   replace Bw := cellK Bw hb
   replace By := cellK By hb
   replace Bg := cellK Bg hb
   replace Bi := cellK Bi hb
   replace Bj := cellK Bj hb
   replace Bh := cellK Bh hb
   clear hb
   try go_wp2_with fail
   refine hK.out _ _ ⟨B4, B5, B6, B7, B8, B9, Ba, Bb, Bc, Bd, Be, Bf⟩ (fun hH => ?_)
   clear hK K
   try simp only [Act.put, List.setIfInBounds_toArray, List.set_cons_zero, List.set_cons_succ]
   clear hH
   refine U_one (i := 9) (by kernel_rfl) rfl (fun K hK => ?_)
   go_simp
   (with_reducible refine (pAdd ht C1 f6 f5).mono ?_)
   rintro e w5 ⟨_, rfl, C2, hb⟩
   obtain ⟨D0, Cx, Cz, Cy, Cs, Cw, Cv, rfl⟩ := C2.shape
   replace hs := bStep hs hb
   replace B0 := B0.mono hb
   replace B1 := B1.mono hb
   replace Bn := Bn.mono hb
   replace Bl := Bl.mono hb
   replace Bo := Bo.mono hb
   replace Bp := Bp.mono hb
   replace ht := ht.mono hb
   replace C0 := C0.mono hb
   replace C1 := C1.mono hb
   replace hJ := hJb _ _ _ hJ hb
   replace B4 := cellK B4 hb
   replace B5 := cellK B5 hb
   replace B6 := cellK B6 hb
   replace B7 := cellK B7 hb
   replace B8 := cellK B8 hb
   replace B9 := cellK B9 hb
   replace Ba := cellK Ba hb
   replace Bb := cellK Bb hb
   replace Bc := cellK Bc hb
   replace Bd := cellK Bd hb
   replace Be := cellK Be hb
   replace Bf := cellK Bf hb
   replace Bm := cellK Bm hb
   replace Bq := cellK Bq hb
   replace Br := cellK Br hb
   replace Bs := cellK Bs hb
   replace Bt := cellK Bt hb
   replace Bu := cellK Bu hb
   replace Bv := cellK Bv hb
   replace Bw := cellK Bw hb
   replace By := cellK By hb
   replace Bg := cellK Bg hb
   replace Bi := cellK Bi hb
   replace Bj := cellK Bj hb
   replace Bh := cellK Bh hb
   clear hb
   try go_wp2_with fail
   refine hK.out _ _ ⟨B4, B5, B6, B7, B8, B9, Ba, Bb, Bc, Bd, Be, Bf⟩ (fun hH => ?_)
   clear hK K
   try simp only [Act.put, List.setIfInBounds_toArray, List.set_cons_zero, List.set_cons_succ]
   clear hH
   have B4 := B0.a0
   have B5 := B0.a1
   have B6 := B0.a2
   have fs := B0.free
   have Ls := B0.lt
   refine U_last (by kernel_rfl) rfl (by kernel_rfl) (fun K hK => ?_)
   go_simp
   refine hK.out _ _ ?_
   clear hK K
   intro w6 hW
   have Da := hs.size
   have ls := B0.lt
   have ly := B1.lt
   have B3 : Below w.heap.size w5 w6 := by rw [hW]; exact (Below.setCell (Below.setCell (Below.setCell (Below.refl w.heap.size w5) (by first | exact Nat.le_refl _ | omega | (have := hs.size; simp; done) | (have := hs.size; simp; omega)) _) (by first | exact Nat.le_refl _ | omega | (have := hs.size; simp; done) | (have := hs.size; simp; omega)) _) (by first | exact Nat.le_refl _ | omega | (have := hs.size; simp; done) | (have := hs.size; simp; omega)) _)
   have D7 : Below w.heap.size w w6 := hs.trans B3
   have hk : KeepD w5 w6 := by rw [hW]; exact (KeepD.set (KeepD.set (KeepD.set (KeepD.refl _) B0.ty (by decide) _ _) (TyB.store B0.ty _ _) (by decide) _ _) (TyB.store (TyB.store B0.ty _ _) _ _) (by decide) _ _)
   have Ct : Bx w6 (u.heap.size) 32 #[.bool D0, .slice Cx Cz Cy, .slice Cs Cw Cv] := by rw [hW]; exact (Bx.set (Bx.set (Bx.set B0 0 _ rfl) 1 _ rfl) 2 _ rfl)
   have Cu : Bx w6 (wr.heap.size) 120 #[.bool Ck, .slice Cd Cn Ch, .slice C4 Ca C7, .bool Cl, .slice Ce Co Ci, .slice C5 Cb C8, .bool Cm, .slice Cf Cp Cj, .slice C6 Cc C9] := by rw [hW]; exact (Bx.far (Bx.far (Bx.far B1 (by first | omega | (simp; done) | (simp; omega)) _) (by first | omega | (simp; done) | (simp; omega)) _) (by first | omega | (simp; done) | (simp; omega)) _)
   replace hs := D7
   clear D7
   have Cq : J k w6 := by rw [hW]; exact (hJs _ _ _ (hJs _ _ _ (hJs _ _ _ hJ (by first | exact Nat.le_refl _ | omega) B0.ty _ _) (by first | exact Nat.le_refl _ | omega) (TyB.store B0.ty _ _) _ _) (by first | exact Nat.le_refl _ | omega) (TyB.store (TyB.store B0.ty _ _) _ _) _ _)
   replace hJ := Cq
   clear Cq
   replace B0 := Ct
   clear Ct
   replace B1 := Cu
   clear Cu
   replace Bn := Bn.keep hk
   replace Bl := Bl.keep hk
   replace Bo := Bo.keep hk
   replace Bp := Bp.keep hk
   replace ht := ht.keep hk
   replace C0 := C0.keep hk
   replace C1 := C1.keep hk
   replace C2 := C2.keep hk
   replace Bm := cellB Bm B3 (by first | assumption | (show _ < _; omega))
   replace Bq := cellB Bq B3 (by first | assumption | (show _ < _; omega))
   replace Br := cellB Br B3 (by first | assumption | (show _ < _; omega))
   replace Bs := cellB Bs B3 (by first | assumption | (show _ < _; omega))
   replace Bt := cellB Bt B3 (by first | assumption | (show _ < _; omega))
   replace Bu := cellB Bu B3 (by first | assumption | (show _ < _; omega))
   replace Bv := cellB Bv B3 (by first | assumption | (show _ < _; omega))
   replace Bw := cellB Bw B3 (by first | assumption | (show _ < _; omega))
   replace By := cellB By B3 (by first | assumption | (show _ < _; omega))
   replace Bg := cellB Bg B3 (by first | assumption | (show _ < _; omega))
   replace Bi := cellB Bi B3 (by first | assumption | (show _ < _; omega))
   replace Bj := cellB Bj B3 (by first | assumption | (show _ < _; omega))
   replace Bh := cellB Bh B3 (by first | assumption | (show _ < _; omega))
   clear hW hk Da B3 ls ly
   try simp only [Act.put, List.setIfInBounds_toArray, List.set_cons_zero, List.set_cons_succ]
   clear B4 B5 B6 B7 B8 B9 Ba Bb Bc Bd Be Bf
   have SW1 := Lib.hid (IntWalk.i64_in ((k : Int) + 1) (by omega))
   have SW2 := Lib.hid (show (0 : Int) ≤ (k : Int) + 1 by omega)
   have SW3 := Lib.hid (show ((k : Int) + 1).toNat = k + 1 by omega)
   go_upto_region 5 with fail
   refine (wpIn_wide (n := 1)).1 ?_
   refine UI_region (S := fun w' => w'.cell? ⟨u.heap.size, 0, none⟩ = some (.bool D0) ∧ w'.cell? ⟨u.heap.size, 1, none⟩ = some (.slice Cx Cz Cy) ∧ w'.cell? ⟨u.heap.size, 2, none⟩ = some (.slice Cs Cw Cv) ∧ w'.cell? ⟨wr.heap.size, 0, none⟩ = some (.bool Ck) ∧ w'.cell? ⟨wr.heap.size, 1, none⟩ = some (.slice Cd Cn Ch) ∧ w'.cell? ⟨wr.heap.size, 2, none⟩ = some (.slice C4 Ca C7) ∧ w'.cell? ⟨wr.heap.size, 3, none⟩ = some (.bool Cl) ∧ w'.cell? ⟨wr.heap.size, 4, none⟩ = some (.slice Ce Co Ci) ∧ w'.cell? ⟨wr.heap.size, 5, none⟩ = some (.slice C5 Cb C8) ∧ w'.cell? ⟨wr.heap.size, 6, none⟩ = some (.bool Cm) ∧ w'.cell? ⟨wr.heap.size, 7, none⟩ = some (.slice Cf Cp Cj) ∧ w'.cell? ⟨wr.heap.size, 8, none⟩ = some (.slice C6 Cc C9) ∧ w'.cell? ⟨bx, 0, none⟩ = some (.slice (some ⟨Cg, Cr, none⟩) l.length cap) ∧ w'.cell? ⟨Cg, Cr + (k + 1) * 9, none⟩ = some (.bool gy1) ∧ w'.cell? ⟨Cg, Cr + (k + 1) * 9 + 1, none⟩ = some (.slice ay1 ny1 cy1) ∧ w'.cell? ⟨Cg, Cr + (k + 1) * 9 + 2, none⟩ = some (.slice Ay1 Ny1 Dy1)) (by kernel_rfl) 13 ?_
   refine AnyUI.abs ?_
   intro w7 hW
   have hb : Below w6.heap.size w6 w7 := by rw [hW]; exact bDrew _
   replace hs := bStep hs hb
   replace B0 := B0.mono hb
   replace B1 := B1.mono hb
   replace Bn := Bn.mono hb
   replace Bl := Bl.mono hb
   replace Bo := Bo.mono hb
   replace Bp := Bp.mono hb
   replace ht := ht.mono hb
   replace C0 := C0.mono hb
   replace C1 := C1.mono hb
   replace C2 := C2.mono hb
   replace hJ := hJb _ _ _ hJ hb
   replace Bm := cellK Bm hb
   replace Bq := cellK Bq hb
   replace Br := cellK Br hb
   replace Bs := cellK Bs hb
   replace Bt := cellK Bt hb
   replace Bu := cellK Bu hb
   replace Bv := cellK Bv hb
   replace Bw := cellK Bw hb
   replace By := cellK By hb
   replace Bg := cellK Bg hb
   replace Bi := cellK Bi hb
   replace Bj := cellK Bj hb
   replace Bh := cellK Bh hb
   clear hb hW
   have B4 := B0.a0
   have B5 := B0.a1
   have B6 := B0.a2
   have B7 := B1.a0
   have B8 := B1.a1
   have B9 := B1.a2
   have Ba := B1.a3
   have Bb := B1.a4
   have Bc := B1.a5
   have Bd := B1.a6
   have Be := B1.a7
   have Bf := B1.a8
   have hH := (show w7.cell? ⟨u.heap.size, 0, none⟩ = some (.bool D0) ∧ w7.cell? ⟨u.heap.size, 1, none⟩ = some (.slice Cx Cz Cy) ∧ w7.cell? ⟨u.heap.size, 2, none⟩ = some (.slice Cs Cw Cv) ∧ w7.cell? ⟨wr.heap.size, 0, none⟩ = some (.bool Ck) ∧ w7.cell? ⟨wr.heap.size, 1, none⟩ = some (.slice Cd Cn Ch) ∧ w7.cell? ⟨wr.heap.size, 2, none⟩ = some (.slice C4 Ca C7) ∧ w7.cell? ⟨wr.heap.size, 3, none⟩ = some (.bool Cl) ∧ w7.cell? ⟨wr.heap.size, 4, none⟩ = some (.slice Ce Co Ci) ∧ w7.cell? ⟨wr.heap.size, 5, none⟩ = some (.slice C5 Cb C8) ∧ w7.cell? ⟨wr.heap.size, 6, none⟩ = some (.bool Cm) ∧ w7.cell? ⟨wr.heap.size, 7, none⟩ = some (.slice Cf Cp Cj) ∧ w7.cell? ⟨wr.heap.size, 8, none⟩ = some (.slice C6 Cc C9) ∧ w7.cell? ⟨bx, 0, none⟩ = some (.slice (some ⟨Cg, Cr, none⟩) l.length cap) ∧ w7.cell? ⟨Cg, Cr + (k + 1) * 9, none⟩ = some (.bool gy1) ∧ w7.cell? ⟨Cg, Cr + (k + 1) * 9 + 1, none⟩ = some (.slice ay1 ny1 cy1) ∧ w7.cell? ⟨Cg, Cr + (k + 1) * 9 + 2, none⟩ = some (.slice Ay1 Ny1 Dy1) from ⟨B4, B5, B6, B7, B8, B9, Ba, Bb, Bc, Bd, Be, Bf, Bh, Bg, Bi, Bj⟩)
   refine UI_take (i := 0) (v := ?_) (by kernel_rfl) rfl (by kernel_rfl) (by kernel_rfl) (by kernel_rfl) (by kernel_rfl) (fun _ _ _ h => h) (Or.inl ⟨by rfl, ?_⟩) (fun _ => rfl) hH ?_
   rotate_left
   ·intro w B2
    try dsimp only at B2
    go_simp
    try with_reducible rfl
   try simp only [Act.put, List.setIfInBounds_toArray, List.set_cons_zero, List.set_cons_succ]
   refine UI_take (i := 1) (v := ?_) (by kernel_rfl) rfl (by kernel_rfl) (by kernel_rfl) (by kernel_rfl) (by kernel_rfl) (fun _ _ _ h => h) (Or.inl ⟨by rfl, ?_⟩) (fun _ => rfl) hH ?_
   rotate_left
   ·intro w B2
    try dsimp only at B2
    go_simp
    try with_reducible rfl
   try simp only [Act.put, List.setIfInBounds_toArray, List.set_cons_zero, List.set_cons_succ]
   refine UI_take (i := 2) (v := ?_) (by kernel_rfl) rfl (by kernel_rfl) (by kernel_rfl) (by kernel_rfl) (by kernel_rfl) (fun _ _ _ h => h) (Or.inl ⟨by rfl, ?_⟩) (fun _ => rfl) hH ?_
   rotate_left
   ·intro w B2
    try dsimp only at B2
    go_simp
    try with_reducible rfl
   try simp only [Act.put, List.setIfInBounds_toArray, List.set_cons_zero, List.set_cons_succ]
   refine UI_take (i := 3) (v := ?_) (by kernel_rfl) rfl (by kernel_rfl) (by kernel_rfl) (by kernel_rfl) (by kernel_rfl) (fun _ _ _ h => h) (Or.inl ⟨by rfl, ?_⟩) (fun _ => rfl) hH ?_
   rotate_left
   ·intro w B2
    try dsimp only at B2
    go_simp
    try with_reducible rfl
   try simp only [Act.put, List.setIfInBounds_toArray, List.set_cons_zero, List.set_cons_succ]
   refine UI_take (i := 4) (v := ?_) (by kernel_rfl) rfl (by kernel_rfl) (by kernel_rfl) (by kernel_rfl) (by kernel_rfl) (fun _ _ _ h => h) (Or.inl ⟨by rfl, ?_⟩) (fun _ => rfl) hH ?_
   rotate_left
   ·intro w B2
    try dsimp only at B2
    go_simp
    try with_reducible rfl
   try simp only [Act.put, List.setIfInBounds_toArray, List.set_cons_zero, List.set_cons_succ]
   refine UI_take (i := 5) (v := ?_) (by kernel_rfl) rfl (by kernel_rfl) (by kernel_rfl) (by kernel_rfl) (by kernel_rfl) (fun _ _ _ h => h) (Or.inl ⟨by rfl, ?_⟩) (fun _ => rfl) hH ?_
   rotate_left
   ·intro w B2
    try dsimp only at B2
    go_simp
    try with_reducible rfl
   try simp only [Act.put, List.setIfInBounds_toArray, List.set_cons_zero, List.set_cons_succ]
   refine UI_take (i := 6) (v := ?_) (by kernel_rfl) rfl (by kernel_rfl) (by kernel_rfl) (by kernel_rfl) (by kernel_rfl) (fun _ _ _ h => h) (Or.inl ⟨by rfl, ?_⟩) (fun _ => rfl) hH ?_
   rotate_left
   ·intro w B2
    try dsimp only at B2
    have q0 := SW1.out
    have q1 := SW2.out
    have q2 := SW3.out
    go_simp
    try with_reducible rfl
   try simp only [Act.put, List.setIfInBounds_toArray, List.set_cons_zero, List.set_cons_succ]
   refine UI_take (i := 7) (v := ?_) (by kernel_rfl) rfl (by kernel_rfl) (by kernel_rfl) (by kernel_rfl) (by kernel_rfl) (fun _ _ _ h => h) (Or.inl ⟨by rfl, ?_⟩) (fun _ => rfl) hH ?_
   rotate_left
   ·intro w B2
    try dsimp only at B2
    have q0 := SW1.out
    have q1 := SW2.out
    have q2 := SW3.out
    go_simp
    try with_reducible rfl
   try simp only [Act.put, List.setIfInBounds_toArray, List.set_cons_zero, List.set_cons_succ]
   refine UI_take (i := 8) (v := ?_) (by kernel_rfl) rfl (by kernel_rfl) (by kernel_rfl) (by kernel_rfl) (by kernel_rfl) (fun _ _ _ h => h) (Or.inl ⟨by rfl, ?_⟩) (fun _ => rfl) hH ?_
   rotate_left
   ·intro w B2
    try dsimp only at B2
    go_simp
    try with_reducible rfl
   try simp only [Act.put, List.setIfInBounds_toArray, List.set_cons_zero, List.set_cons_succ]
   refine UI_take (i := 9) (v := ?_) (by kernel_rfl) rfl (by kernel_rfl) (by kernel_rfl) (by kernel_rfl) (by kernel_rfl) (fun _ _ _ h => h) (Or.inl ⟨by rfl, ?_⟩) (fun _ => rfl) hH ?_
   rotate_left
   ·intro w B2
    try dsimp only at B2
    go_simp
    try with_reducible rfl
   try simp only [Act.put, List.setIfInBounds_toArray, List.set_cons_zero, List.set_cons_succ]
   clear hH
   refine UI_one (i := 10) (by kernel_rfl) rfl (fun K hK => ?_)
   go_simp
   refine ⟨trivial, ?_⟩
   (with_reducible refine ((callsIn_wide (n := 0)).2 (sc_thrown _ _ _ _ _ Bn Bp k1 k2 k3 k4 HNE2.out)).mono ?_)
   rintro e w8 ⟨_, rfl, hr, hb⟩
   obtain ⟨shr, ahr, nhr, chr, Ahr, Nhr, Chr, rfl⟩ := hr.shape
   replace hs := bStep hs hb
   replace B0 := B0.mono hb
   replace B1 := B1.mono hb
   replace Bn := Bn.mono hb
   replace Bl := Bl.mono hb
   replace Bo := Bo.mono hb
   replace Bp := Bp.mono hb
   replace ht := ht.mono hb
   replace C0 := C0.mono hb
   replace C1 := C1.mono hb
   replace C2 := C2.mono hb
   replace hJ := hJb _ _ _ hJ hb
   replace B4 := cellK B4 hb
   replace B5 := cellK B5 hb
   replace B6 := cellK B6 hb
   replace B7 := cellK B7 hb
   replace B8 := cellK B8 hb
   replace B9 := cellK B9 hb
   replace Ba := cellK Ba hb
   replace Bb := cellK Bb hb
   replace Bc := cellK Bc hb
   replace Bd := cellK Bd hb
   replace Be := cellK Be hb
   replace Bf := cellK Bf hb
   replace Bh := cellK Bh hb
   replace Bg := cellK Bg hb
   replace Bi := cellK Bi hb
   replace Bj := cellK Bj hb
   replace Bm := cellK Bm hb
   replace Bq := cellK Bq hb
   replace Br := cellK Br hb
   replace Bs := cellK Bs hb
   replace Bt := cellK Bt hb
   replace Bu := cellK Bu hb
   replace Bv := cellK Bv hb
   replace Bw := cellK Bw hb
   replace By := cellK By hb
   clear hb
   try go_wp2_with fail
   refine hK.out _ _ ⟨B4, B5, B6, B7, B8, B9, Ba, Bb, Bc, Bd, Be, Bf, Bh, Bg, Bi, Bj⟩ (fun hH => ?_)
   clear hK K
   try simp only [Act.put, List.setIfInBounds_toArray, List.set_cons_zero, List.set_cons_succ]
   clear hH
   refine UI_one (i := 11) (by kernel_rfl) rfl (fun K hK => ?_)
   obtain ⟨fn, tmps, assign, body, hyd, hRd⟩ := hY k w8 _ _ hlt hJ (by have := hs.size; omega) C2 (hr.of_eq rfl)
   go_simp
   refine hRd.mono ?_
   clear hRd hyd
   rintro e w9 ⟨rfl, Cq, hkd, hsm⟩
   have hgy := hs.size
   replace B0 := (hsm _ (Nat.le_refl _) B0.lt (.inl B0.ty)).trans B0
   replace B1 := (hsm _ (by omega) B1.lt (.inr B1.ty)).trans B1
   replace C2 := C2.keep hkd
   clear hJ
   have hJ := Cq
   have Bk := (hJw _ _ hJ).1
   replace B0 : Bx w9 (u.heap.size) 32 #[.bool D0, .slice Cx Cz Cy, .slice Cs Cw Cv] := B0
   replace B1 : Bx w9 (wr.heap.size) 120 #[.bool Ck, .slice Cd Cn Ch, .slice C4 Ca C7, .bool Cl, .slice Ce Co Ci, .slice C5 Cb C8, .bool Cm, .slice Cf Cp Cj, .slice C6 Cc C9] := B1
   replace B4 := B0.at 0 rfl
   replace B5 := B0.at 1 rfl
   replace B6 := B0.at 2 rfl
   replace B7 := B1.at 0 rfl
   replace B8 := B1.at 1 rfl
   replace B9 := B1.at 2 rfl
   replace Ba := B1.at 3 rfl
   replace Bb := B1.at 4 rfl
   replace Bc := B1.at 5 rfl
   replace Bd := B1.at 6 rfl
   replace Be := B1.at 7 rfl
   replace Bf := B1.at 8 rfl
   replace Bh := (hJw _ _ hJ).2
   replace Bg := cellK HE.out.1 Bk
   replace Bi := cellK HE.out.2.1 Bk
   replace Bj := cellK HE.out.2.2 Bk
   clear hs Bn Bl Bo Bp ht C0 C1 hr Cq Bk hkd hsm HE Bm Bq Br Bs Bt Bu Bv Bw By
   refine hK.out _ _ ⟨B4, B5, B6, B7, B8, B9, Ba, Bb, Bc, Bd, Be, Bf, Bh, Bg, Bi, Bj⟩ (fun hH => ?_)
   clear hK K
   try simp only [Act.put, List.setIfInBounds_toArray, List.set_cons_zero, List.set_cons_succ]
   refine UI_take (i := 12) (v := ?_) (by kernel_rfl) rfl (by kernel_rfl) (by kernel_rfl) (by kernel_rfl) (by kernel_rfl) (fun _ _ _ h => h) (Or.inl ⟨by rfl, ?_⟩) (fun _ => rfl) hH ?_
   rotate_left
   ·intro w B2
    try dsimp only at B2
    have q0 := SW1.out
    have q1 := SW2.out
    have q2 := SW3.out
    go_simp
    try with_reducible rfl
   try simp only [Act.put, List.setIfInBounds_toArray, List.set_cons_zero, List.set_cons_succ]
   clear hH
   refine UI_end (by kernel_rfl) ?_
   clear B4 B5 B6 B7 B8 B9 Ba Bb Bc Bd Be Bf Bh Bg Bi Bj
   go_wp2
   go_roundw
   case rel => exact ⟨k + 1, by omega, by go_num, B0.lt, hJ, ⟨_, _, _, _, _, _, _, B0, C2⟩⟩
   all_goals first | (simp [intOf]; done) | (simp [intOf]; omega)
  ·obtain rfl : k = l.length - 1 := by omega
   go_wp2
   go_end0
   exact ⟨⟨_, rfl⟩, hJ⟩
end Go.Proofs.YtkfekkhhfpkfaaaGreat
