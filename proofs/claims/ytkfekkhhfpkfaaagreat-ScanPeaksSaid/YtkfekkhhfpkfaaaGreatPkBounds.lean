/-
  The contract of scan's boundaries: what it hands back, and how that goes over whatever yield.
-/
import Derived.Test.YtkfekkhhfpkfaaaGreatPkScan
import Derived.Test.YtkfekkhhfpkfaaaGreatPkOps
import Derived.Test.YtkfekkhhfpkfaaaGreatRangeF
set_option linter.unusedSimpArgs false
set_option linter.unusedVariables false
namespace Go.Proofs.YtkfekkhhfpkfaaaGreat
open Go.RowKit Dg
attribute [local go_sem ↓] Go.wp_at_zero Go.wp_at_succ

/-- The nine cells of a layer's three fractions. -/
theorem C3.openP {w : World} {cs : List Value} {x : Lay} (h : C3 PC w cs x) : ∃ g1 a1 n1 c1 A1 N1 D1 g2 a2 n2 c2 A2 N2 D2 g3 a3 n3 c3 A3 N3 D3,
    cs = [.bool g1, .slice a1 n1 c1, .slice A1 N1 D1, .bool g2, .slice a2 n2 c2, .slice A2 N2 D2, .bool g3, .slice a3 n3 c3, .slice A3 N3 D3] ∧
    PV w (.agg #[.bool g1, .slice a1 n1 c1, .slice A1 N1 D1]) x.1 ∧ PV w (.agg #[.bool g2, .slice a2 n2 c2, .slice A2 N2 D2]) x.2.1 ∧ PV w (.agg #[.bool g3, .slice a3 n3 c3, .slice A3 N3 D3]) x.2.2 := by
  obtain ⟨_, _, _, rfl, ⟨p1, p2, p3, rfl, h1⟩, ⟨q1, q2, q3, rfl, h2⟩, ⟨r1, r2, r3, rfl, h3⟩⟩ := h
  obtain ⟨g1, a1, n1, c1, A1, N1, D1, e⟩ := h1.shape
  obtain ⟨rfl, rfl, rfl⟩ := agg3 e
  obtain ⟨g2, a2, n2, c2, A2, N2, D2, e⟩ := h2.shape
  obtain ⟨rfl, rfl, rfl⟩ := agg3 e
  obtain ⟨g3, a3, n3, c3, A3, N3, D3, e⟩ := h3.shape
  obtain ⟨rfl, rfl, rfl⟩ := agg3 e
  exact ⟨_, _, _, _, _, _, _, _, _, _, _, _, _, _, _, _, _, _, _, _, _, rfl, h1, h2, h3⟩

theorem layAt_someP {l : List Lay} {k : Nat} (h : k < l.length) : l[k]? = some (layAt l k) := by unfold layAt; rw [List.getElem?_eq_getElem h]; rfl
/-- The blocks up to n of a world. -/
theorem cut_world (n : Nat) (W : World) (h : n ≤ W.heap.size) : ∃ w : World, w.heap.size = n ∧ Below w.heap.size w W := by
  refine ⟨{ W with heap := W.heap.extract 0 n }, by simp; omega, ⟨rfl, rfl, rfl, by simp only [Array.size_extract]; omega, fun k hk => ?_⟩⟩
  simp only [Array.size_extract] at hk
  show W.heap[k]? = (W.heap.extract 0 n)[k]?
  rw [Array.getElem?_extract]
  simp; omega

set_option maxRecDepth 100000 in
set_option maxHeartbeats 4000000 in
theorem sc_boundaries (ao : Option Addr) (n c : Nat) (w : World) : Calls Tryz.prog 107 #[.slice ao n c] w (fun e w' => e = .returned (.func (.func 156) #[] #[.pointer (some ⟨w.heap.size, 0, none⟩)]) ∧ Bx w' w.heap.size 121 #[.slice ao n c] ∧ Below w.heap.size w w') := by
  have hs := Below.refl w.heap.size w
  go_enter Tryz.func107, Tryz.ntmps107
  go_wp2
  go_ret
  exact ⟨rfl, Bx.new _ _ _, (Below.refl _ _).alloc (Nat.le_refl _) _⟩

end Go.Proofs.YtkfekkhhfpkfaaaGreat
/-
  The contract of the iterator of scan's boundaries, over whatever yield keeps its promise.
-/
namespace Go.Proofs.YtkfekkhhfpkfaaaGreat
open Go.RowKit Dg
attribute [local go_sem ↓] Go.wp_at_zero Go.wp_at_succ

set_option maxRecDepth 100000 in
set_option maxHeartbeats 16000000 in
theorem bnd_in (lp bx : Nat) (v : Value) (l : List Lay) (B : Nat) (J : Nat → World → Prop) (w0 u : World) (hl : Rows 9 120 (C3 PC) w0 v l) (h1 : 2 ≤ l.length) (h2 : l.length ≤ 12) (hp : ∀ x ∈ l, layPos x = true) (hB : B ≤ 1000) (hz : ∀ x ∈ l, LaySz B x)
    (hbx : bx < u.heap.size) (h0s : w0.heap.size ≤ u.heap.size)
    (hJw : ∀ k W, J k W → Below w0.heap.size w0 W ∧ W.cell? ⟨bx, 0, none⟩ = some v)
    (hJb : ∀ k W W', J k W → Below W.heap.size W W' → J k W')
    (hJs : ∀ k W b, J k W → u.heap.size ≤ b → TyB 32 W b → ∀ j x, J k (W.setCell ⟨b, j, none⟩ x))
    (hY : ∀ k W vt vr, k + 1 < l.length → J k W → u.heap.size ≤ W.heap.size → PV W vt (tmQ l (k + 1)) → PV W vr (rfQ l k) → YieldAt Fence.wide 0 Tryz.prog lp #[vt, vr] W fun e W' =>
      e = .returned (.bool true) ∧ J (k + 1) W' ∧ KeepD W W' ∧ (∀ b, u.heap.size ≤ b → b < W.heap.size → (TyB 32 W b ∨ TyB 120 W b) → W'.heap[b]? = W.heap[b]?))
    (h0 : J 0 u) : Calls Tryz.prog 156 #[.func (.yield lp) #[] #[], .pointer (some ⟨bx, 0, none⟩)] u fun e W' => (∃ x, e = .returned x) ∧ J (l.length - 1) W' := by
  obtain ⟨ao, cap, rfl, hc1, hc2, hc3⟩ := hl.slice
  have hs := Below.refl u.heap.size u
  have HL := Lib.hid hl
  have HFT := Lib.hid (fun k (hk : k + 1 < l.length) => echo_fits hz hp hB h2 hk)
  have cbx := (hJw _ _ h0).2
  have S1 := IntWalk.i64_in ((l.length : Int) - 1) (by omega)
  have S2 : ((l.length : Int) - 1).toNat = l.length - 1 := by omega
  have S3 : (0 : Int) ≤ (l.length : Int) - 1 := by omega
  have S4 : ((l.length - 1 : Nat) : Int) = (l.length : Int) - 1 := by omega
  clear hl hp hz
  go_enter Tryz.func156, Tryz.ntmps156
  go_wp2_with fail
  refine Code.abs ?_
  intro w1 hW
  have Bls : Bx w1 u.heap.size 32 #[.bool false, .slice none 0 0, .slice none 0 0] := by rw [hW]; exact Bx.new _ _ _
  have hb : Below u.heap.size u w1 := by rw [hW]; exact (Below.refl _ _).alloc (Nat.le_refl _) _
  replace cbx := cellK cbx hb
  replace h0 := hJb _ _ _ h0 hb
  have hsz := hb.size
  clear hW hb hs
  go_wp2
  go_loopw [12] (fun iv wq => ∃ k : Nat, k + 1 ≤ l.length ∧ iv = .int .i64 k ∧ u.heap.size < wq.heap.size ∧ J k wq ∧ BoxP wq u.heap.size (tmQ l k)) (fun iv _ => l.length - (intOf iv).toNat)
  case atStart => exact ⟨0, by omega, rfl, Bls.lt, h0, ⟨_, _, _, _, _, _, _, Bls, PV.zero _⟩⟩
  case round =>
    clear h0 Bls cbx
    obtain ⟨k, hk, rfl, hn, hJ, ⟨sht, aht, nht, cht, Aht, Nht, Cht, Bls, ht⟩⟩ := hrel
    obtain ⟨w, hw, hs⟩ := cut_world u.heap.size wr (by omega)
    by_cases hlt : k + 1 < l.length
    · have hx := layAt_someP (show k < l.length by omega)
      have hy := layAt_someP hlt
      have hB0 := (hJw _ _ hJ).1
      have cbx := (hJw _ _ hJ).2
      obtain ⟨bbx, oxx, dx, csx, hvx, hlenx, hatx, hcx⟩ := HL.out.get hx
      obtain ⟨rfl, rfl⟩ := sliceE hvx
      obtain ⟨gx1, ax1, nx1, cx1, Ax1, Nx1, Dx1, gx2, ax2, nx2, cx2, Ax2, Nx2, Dx2, gx3, ax3, nx3, cx3, Ax3, Nx3, Dx3, rfl, hx1, hx2, hx3⟩ := hcx.openP
      have Ex0 := hatx 0 _ rfl
      have Ex1 := hatx 1 _ rfl
      have Ex2 := hatx 2 _ rfl
      have Ex3 := hatx 3 _ rfl
      have Ex4 := hatx 4 _ rfl
      have Ex5 := hatx 5 _ rfl
      have Ex6 := hatx 6 _ rfl
      have Ex7 := hatx 7 _ rfl
      have Ex8 := hatx 8 _ rfl
      obtain ⟨bby, oy, dy, csy, hvy, hleny, haty, hcy⟩ := HL.out.get hy
      obtain ⟨ey, rfl⟩ := sliceE hvy
      injection ey with ey
      injection ey with ey1 ey2
      subst ey1 ey2
      obtain ⟨gy1, ay1, ny1, cy1, Ay1, Ny1, Dy1, gy2, ay2, ny2, cy2, Ay2, Ny2, Dy2, gy3, ay3, ny3, cy3, Ay3, Ny3, Dy3, rfl, hy1, hy2, hy3⟩ := hcy.openP
      have Ey0 := haty 0 _ rfl
      have Ey1 := haty 1 _ rfl
      have Ey2 := haty 2 _ rfl
      simp only [Nat.add_zero] at Ex0 Ey0
      clear hatx hcx hlenx haty hcy hleny hy2 hy3
      have HE := Lib.hid (And.intro Ey0 (And.intro Ey1 Ey2))
      replace Ex0 := cellK Ex0 hB0
      replace Ex1 := cellK Ex1 hB0
      replace Ex2 := cellK Ex2 hB0
      replace Ex3 := cellK Ex3 hB0
      replace Ex4 := cellK Ex4 hB0
      replace Ex5 := cellK Ex5 hB0
      replace Ex6 := cellK Ex6 hB0
      replace Ex7 := cellK Ex7 hB0
      replace Ex8 := cellK Ex8 hB0
      replace Ey0 := cellK Ey0 hB0
      replace Ey1 := cellK Ey1 hB0
      replace Ey2 := cellK Ey2 hB0
      replace hx1 := hx1.mono hB0
      replace hx2 := hx2.mono hB0
      replace hx3 := hx3.mono hB0
      replace hy1 := hy1.mono hB0
      clear hB0
      have hLx : bbx < w.heap.size := by have := HL.out.lt (by omega); omega
      have hLb : bx < w.heap.size := by omega
      obtain ⟨⟨f1, f2, f3, f4, f5, f6⟩, ⟨k1, k2, k3, k4, k5⟩, e1, e2, e3, e4⟩ := HFT.out k hlt
      have bk1 : (0 : Int) ≤ (k : Int) := by omega
      have bk2 : (k : Int) < (l.length : Int) - 1 := by omega
      have bk3 : (k : Int) + 1 < (l.length : Int) := by omega
      have bk4 : (k : Int) < (l.length : Int) := by omega
      have HNE := Lib.hid f4
      have HNE2 := Lib.hid k5
      clear f4 k5 hx hy
      go_wp2_with fail
      refine Code.abs ?_
      intro w1 hW
      have hsz := hs.size
      have ls := Bls.lt
      have hbw : Below w.heap.size wr w1 := by rw [hW]; exact (Below.alloc (Below.refl w.heap.size wr) (by first | exact hs.size | (have := hs.size; simp; done) | (have := hs.size; simp; omega)) _)
      have hs1 : Below w.heap.size w w1 := hs.trans hbw
      have hk : KeepD wr w1 := by rw [hW]; exact ((KeepD.refl _).alloc _)
      have Bl1s : Bx w1 (u.heap.size) 32 #[.bool sht, .slice aht nht cht, .slice Aht Nht Cht] := by rw [hW]; exact (Bls.alloc _)
      have Bl1y : Bx w1 (wr.heap.size) 120 #[.bool gx1, .slice ax1 nx1 cx1, .slice Ax1 Nx1 Dx1, .bool gx2, .slice ax2 nx2 cx2, .slice Ax2 Nx2 Dx2, .bool gx3, .slice ax3 nx3 cx3, .slice Ax3 Nx3 Dx3] := by rw [hW]; exact (Bx.new' _ _ _ _ (by first | rfl | (simp; done)))
      replace hs := hs1
      clear hs1
      have hJ1 : J k w1 := by rw [hW]; exact (hJb _ _ _ hJ (Below.alloc (Below.refl _ _) (Nat.le_refl _) _))
      replace hJ := hJ1
      clear hJ1
      replace Bls := Bl1s
      clear Bl1s
      have Bly := Bl1y
      clear Bl1y
      replace hx1 := hx1.keep hk
      replace hx2 := hx2.keep hk
      replace hx3 := hx3.keep hk
      replace hy1 := hy1.keep hk
      replace ht := ht.keep hk
      replace Ex0 := cellB Ex0 hbw (by first | assumption | (show _ < _; omega))
      replace Ex1 := cellB Ex1 hbw (by first | assumption | (show _ < _; omega))
      replace Ex2 := cellB Ex2 hbw (by first | assumption | (show _ < _; omega))
      replace Ex3 := cellB Ex3 hbw (by first | assumption | (show _ < _; omega))
      replace Ex4 := cellB Ex4 hbw (by first | assumption | (show _ < _; omega))
      replace Ex5 := cellB Ex5 hbw (by first | assumption | (show _ < _; omega))
      replace Ex6 := cellB Ex6 hbw (by first | assumption | (show _ < _; omega))
      replace Ex7 := cellB Ex7 hbw (by first | assumption | (show _ < _; omega))
      replace Ex8 := cellB Ex8 hbw (by first | assumption | (show _ < _; omega))
      replace Ey0 := cellB Ey0 hbw (by first | assumption | (show _ < _; omega))
      replace Ey1 := cellB Ey1 hbw (by first | assumption | (show _ < _; omega))
      replace Ey2 := cellB Ey2 hbw (by first | assumption | (show _ < _; omega))
      replace cbx := cellB cbx hbw (by first | assumption | (show _ < _; omega))
      clear hW hk hsz hbw ls
      have hz_w1 : wr.heap.size < w1.heap.size := Bly.lt
      refine U_region (S := fun w' => w'.cell? ⟨u.heap.size, 0, none⟩ = some (.bool sht) ∧ w'.cell? ⟨u.heap.size, 1, none⟩ = some (.slice aht nht cht) ∧ w'.cell? ⟨u.heap.size, 2, none⟩ = some (.slice Aht Nht Cht) ∧ w'.cell? ⟨wr.heap.size, 0, none⟩ = some (.bool gx1) ∧ w'.cell? ⟨wr.heap.size, 1, none⟩ = some (.slice ax1 nx1 cx1) ∧ w'.cell? ⟨wr.heap.size, 2, none⟩ = some (.slice Ax1 Nx1 Dx1) ∧ w'.cell? ⟨wr.heap.size, 3, none⟩ = some (.bool gx2) ∧ w'.cell? ⟨wr.heap.size, 4, none⟩ = some (.slice ax2 nx2 cx2) ∧ w'.cell? ⟨wr.heap.size, 5, none⟩ = some (.slice Ax2 Nx2 Dx2) ∧ w'.cell? ⟨wr.heap.size, 6, none⟩ = some (.bool gx3) ∧ w'.cell? ⟨wr.heap.size, 7, none⟩ = some (.slice ax3 nx3 cx3) ∧ w'.cell? ⟨wr.heap.size, 8, none⟩ = some (.slice Ax3 Nx3 Dx3)) (by kernel_rfl) 10 ?_
      refine AnyU.abs ?_
      intro w2 hW
      have hb : Below w1.heap.size w1 w2 := by rw [hW]; exact bDrew _
      replace hs := bStep hs hb
      replace Bls := Bls.mono hb
      replace Bly := Bly.mono hb
      replace hx1 := hx1.mono hb
      replace hx2 := hx2.mono hb
      replace hx3 := hx3.mono hb
      replace hy1 := hy1.mono hb
      replace ht := ht.mono hb
      replace hJ := hJb _ _ _ hJ hb
      replace Ex0 := cellK Ex0 hb
      replace Ex1 := cellK Ex1 hb
      replace Ex2 := cellK Ex2 hb
      replace Ex3 := cellK Ex3 hb
      replace Ex4 := cellK Ex4 hb
      replace Ex5 := cellK Ex5 hb
      replace Ex6 := cellK Ex6 hb
      replace Ex7 := cellK Ex7 hb
      replace Ex8 := cellK Ex8 hb
      replace Ey0 := cellK Ey0 hb
      replace Ey1 := cellK Ey1 hb
      replace Ey2 := cellK Ey2 hb
      replace cbx := cellK cbx hb
      clear hb hW
      have cs_0 : w2.cell? ⟨u.heap.size, 0, none⟩ = some (.bool sht) := Bls.at 0 rfl
      have cs_1 : w2.cell? ⟨u.heap.size, 1, none⟩ = some (.slice aht nht cht) := Bls.at 1 rfl
      have cs_2 : w2.cell? ⟨u.heap.size, 2, none⟩ = some (.slice Aht Nht Cht) := Bls.at 2 rfl
      have cy_0 : w2.cell? ⟨wr.heap.size, 0, none⟩ = some (.bool gx1) := Bly.at 0 rfl
      have cy_1 : w2.cell? ⟨wr.heap.size, 1, none⟩ = some (.slice ax1 nx1 cx1) := Bly.at 1 rfl
      have cy_2 : w2.cell? ⟨wr.heap.size, 2, none⟩ = some (.slice Ax1 Nx1 Dx1) := Bly.at 2 rfl
      have cy_3 : w2.cell? ⟨wr.heap.size, 3, none⟩ = some (.bool gx2) := Bly.at 3 rfl
      have cy_4 : w2.cell? ⟨wr.heap.size, 4, none⟩ = some (.slice ax2 nx2 cx2) := Bly.at 4 rfl
      have cy_5 : w2.cell? ⟨wr.heap.size, 5, none⟩ = some (.slice Ax2 Nx2 Dx2) := Bly.at 5 rfl
      have cy_6 : w2.cell? ⟨wr.heap.size, 6, none⟩ = some (.bool gx3) := Bly.at 6 rfl
      have cy_7 : w2.cell? ⟨wr.heap.size, 7, none⟩ = some (.slice ax3 nx3 cx3) := Bly.at 7 rfl
      have cy_8 : w2.cell? ⟨wr.heap.size, 8, none⟩ = some (.slice Ax3 Nx3 Dx3) := Bly.at 8 rfl
      have hH := (show w2.cell? ⟨u.heap.size, 0, none⟩ = some (.bool sht) ∧ w2.cell? ⟨u.heap.size, 1, none⟩ = some (.slice aht nht cht) ∧ w2.cell? ⟨u.heap.size, 2, none⟩ = some (.slice Aht Nht Cht) ∧ w2.cell? ⟨wr.heap.size, 0, none⟩ = some (.bool gx1) ∧ w2.cell? ⟨wr.heap.size, 1, none⟩ = some (.slice ax1 nx1 cx1) ∧ w2.cell? ⟨wr.heap.size, 2, none⟩ = some (.slice Ax1 Nx1 Dx1) ∧ w2.cell? ⟨wr.heap.size, 3, none⟩ = some (.bool gx2) ∧ w2.cell? ⟨wr.heap.size, 4, none⟩ = some (.slice ax2 nx2 cx2) ∧ w2.cell? ⟨wr.heap.size, 5, none⟩ = some (.slice Ax2 Nx2 Dx2) ∧ w2.cell? ⟨wr.heap.size, 6, none⟩ = some (.bool gx3) ∧ w2.cell? ⟨wr.heap.size, 7, none⟩ = some (.slice ax3 nx3 cx3) ∧ w2.cell? ⟨wr.heap.size, 8, none⟩ = some (.slice Ax3 Nx3 Dx3) from ⟨cs_0, cs_1, cs_2, cy_0, cy_1, cy_2, cy_3, cy_4, cy_5, cy_6, cy_7, cy_8⟩)
      refine U_take (i := 0) (v := ?_) rfl (by kernel_rfl) (by kernel_rfl) (by kernel_rfl) (by kernel_rfl) (fun _ _ _ h => h) (Or.inl ⟨by rfl, ?_⟩) hH ?_
      rotate_left
      · intro w hSw
        try dsimp only at hSw
        go_simp
        try with_reducible rfl
      try simp only [Act.put, List.setIfInBounds_toArray, List.set_cons_zero, List.set_cons_succ]
      refine U_take (i := 1) (v := ?_) rfl (by kernel_rfl) (by kernel_rfl) (by kernel_rfl) (by kernel_rfl) (fun _ _ _ h => h) (Or.inl ⟨by rfl, ?_⟩) hH ?_
      rotate_left
      · intro w hSw
        try dsimp only at hSw
        go_simp
        try with_reducible rfl
      try simp only [Act.put, List.setIfInBounds_toArray, List.set_cons_zero, List.set_cons_succ]
      refine U_take (i := 2) (v := ?_) rfl (by kernel_rfl) (by kernel_rfl) (by kernel_rfl) (by kernel_rfl) (fun _ _ _ h => h) (Or.inl ⟨by rfl, ?_⟩) hH ?_
      rotate_left
      · intro w hSw
        try dsimp only at hSw
        go_simp
        try with_reducible rfl
      try simp only [Act.put, List.setIfInBounds_toArray, List.set_cons_zero, List.set_cons_succ]
      refine U_take (i := 3) (v := ?_) rfl (by kernel_rfl) (by kernel_rfl) (by kernel_rfl) (by kernel_rfl) (fun _ _ _ h => h) (Or.inl ⟨by rfl, ?_⟩) hH ?_
      rotate_left
      · intro w hSw
        try dsimp only at hSw
        go_simp
        try with_reducible rfl
      try simp only [Act.put, List.setIfInBounds_toArray, List.set_cons_zero, List.set_cons_succ]
      refine U_take (i := 4) (v := ?_) rfl (by kernel_rfl) (by kernel_rfl) (by kernel_rfl) (by kernel_rfl) (fun _ _ _ h => h) (Or.inl ⟨by rfl, ?_⟩) hH ?_
      rotate_left
      · intro w hSw
        try dsimp only at hSw
        go_simp
        try with_reducible rfl
      try simp only [Act.put, List.setIfInBounds_toArray, List.set_cons_zero, List.set_cons_succ]
      refine U_take (i := 6) (v := ?_) rfl (by kernel_rfl) (by kernel_rfl) (by kernel_rfl) (by kernel_rfl) (fun _ _ _ h => h) (Or.inl ⟨by rfl, ?_⟩) hH ?_
      rotate_left
      · intro w hSw
        try dsimp only at hSw
        go_simp
        try with_reducible rfl
      try simp only [Act.put, List.setIfInBounds_toArray, List.set_cons_zero, List.set_cons_succ]
      refine U_take (i := 7) (v := ?_) rfl (by kernel_rfl) (by kernel_rfl) (by kernel_rfl) (by kernel_rfl) (fun _ _ _ h => h) (Or.inl ⟨by rfl, ?_⟩) hH ?_
      rotate_left
      · intro w hSw
        try dsimp only at hSw
        go_simp
        try with_reducible rfl
      try simp only [Act.put, List.setIfInBounds_toArray, List.set_cons_zero, List.set_cons_succ]
      clear hH
      refine U_one (i := 5) (by kernel_rfl) rfl (fun K hK => ?_)
      go_simp
      (with_reducible refine (pAdd hx2 hx2 f1 f1).mono ?_)
      rintro e w3 ⟨_, rfl, hth, hb⟩
      obtain ⟨shth, ahth, nhth, chth, Ahth, Nhth, Chth, rfl⟩ := hth.shape
      replace hs := bStep hs hb
      replace Bls := Bls.mono hb
      replace Bly := Bly.mono hb
      replace hx1 := hx1.mono hb
      replace hx2 := hx2.mono hb
      replace hx3 := hx3.mono hb
      replace hy1 := hy1.mono hb
      replace ht := ht.mono hb
      replace hJ := hJb _ _ _ hJ hb
      replace cs_0 := cellK cs_0 hb
      replace cs_1 := cellK cs_1 hb
      replace cs_2 := cellK cs_2 hb
      replace cy_0 := cellK cy_0 hb
      replace cy_1 := cellK cy_1 hb
      replace cy_2 := cellK cy_2 hb
      replace cy_3 := cellK cy_3 hb
      replace cy_4 := cellK cy_4 hb
      replace cy_5 := cellK cy_5 hb
      replace cy_6 := cellK cy_6 hb
      replace cy_7 := cellK cy_7 hb
      replace cy_8 := cellK cy_8 hb
      replace Ex0 := cellK Ex0 hb
      replace Ex1 := cellK Ex1 hb
      replace Ex2 := cellK Ex2 hb
      replace Ex3 := cellK Ex3 hb
      replace Ex4 := cellK Ex4 hb
      replace Ex5 := cellK Ex5 hb
      replace Ex6 := cellK Ex6 hb
      replace Ex7 := cellK Ex7 hb
      replace Ex8 := cellK Ex8 hb
      replace Ey0 := cellK Ey0 hb
      replace Ey1 := cellK Ey1 hb
      replace Ey2 := cellK Ey2 hb
      replace cbx := cellK cbx hb
      clear hb
      try go_wp2_with fail
      refine hK.out _ _ ⟨cs_0, cs_1, cs_2, cy_0, cy_1, cy_2, cy_3, cy_4, cy_5, cy_6, cy_7, cy_8⟩ (fun hH => ?_)
      clear hK K
      try simp only [Act.put, List.setIfInBounds_toArray, List.set_cons_zero, List.set_cons_succ]
      clear hH
      refine U_one (i := 8) (by kernel_rfl) rfl (fun K hK => ?_)
      go_simp
      (with_reducible refine (sc_over _ _ _ _ _ hth hx3 f2 f3 HNE.out).mono ?_)
      rintro e w4 ⟨_, rfl, hqt, hb⟩
      obtain ⟨shqt, ahqt, nhqt, chqt, Ahqt, Nhqt, Chqt, rfl⟩ := hqt.shape
      replace hs := bStep hs hb
      replace Bls := Bls.mono hb
      replace Bly := Bly.mono hb
      replace hx1 := hx1.mono hb
      replace hx2 := hx2.mono hb
      replace hx3 := hx3.mono hb
      replace hy1 := hy1.mono hb
      replace ht := ht.mono hb
      replace hth := hth.mono hb
      replace hJ := hJb _ _ _ hJ hb
      replace cs_0 := cellK cs_0 hb
      replace cs_1 := cellK cs_1 hb
      replace cs_2 := cellK cs_2 hb
      replace cy_0 := cellK cy_0 hb
      replace cy_1 := cellK cy_1 hb
      replace cy_2 := cellK cy_2 hb
      replace cy_3 := cellK cy_3 hb
      replace cy_4 := cellK cy_4 hb
      replace cy_5 := cellK cy_5 hb
      replace cy_6 := cellK cy_6 hb
      replace cy_7 := cellK cy_7 hb
      replace cy_8 := cellK cy_8 hb
      replace Ex0 := cellK Ex0 hb
      replace Ex1 := cellK Ex1 hb
      replace Ex2 := cellK Ex2 hb
      replace Ex3 := cellK Ex3 hb
      replace Ex4 := cellK Ex4 hb
      replace Ex5 := cellK Ex5 hb
      replace Ex6 := cellK Ex6 hb
      replace Ex7 := cellK Ex7 hb
      replace Ex8 := cellK Ex8 hb
      replace Ey0 := cellK Ey0 hb
      replace Ey1 := cellK Ey1 hb
      replace Ey2 := cellK Ey2 hb
      replace cbx := cellK cbx hb
      clear hb
      try go_wp2_with fail
      refine hK.out _ _ ⟨cs_0, cs_1, cs_2, cy_0, cy_1, cy_2, cy_3, cy_4, cy_5, cy_6, cy_7, cy_8⟩ (fun hH => ?_)
      clear hK K
      try simp only [Act.put, List.setIfInBounds_toArray, List.set_cons_zero, List.set_cons_succ]
      clear hH
      refine U_one (i := 9) (by kernel_rfl) rfl (fun K hK => ?_)
      go_simp
      (with_reducible refine (pAdd ht hqt f6 f5).mono ?_)
      rintro e w5 ⟨_, rfl, htn, hb⟩
      obtain ⟨shtn, ahtn, nhtn, chtn, Ahtn, Nhtn, Chtn, rfl⟩ := htn.shape
      replace hs := bStep hs hb
      replace Bls := Bls.mono hb
      replace Bly := Bly.mono hb
      replace hx1 := hx1.mono hb
      replace hx2 := hx2.mono hb
      replace hx3 := hx3.mono hb
      replace hy1 := hy1.mono hb
      replace ht := ht.mono hb
      replace hth := hth.mono hb
      replace hqt := hqt.mono hb
      replace hJ := hJb _ _ _ hJ hb
      replace cs_0 := cellK cs_0 hb
      replace cs_1 := cellK cs_1 hb
      replace cs_2 := cellK cs_2 hb
      replace cy_0 := cellK cy_0 hb
      replace cy_1 := cellK cy_1 hb
      replace cy_2 := cellK cy_2 hb
      replace cy_3 := cellK cy_3 hb
      replace cy_4 := cellK cy_4 hb
      replace cy_5 := cellK cy_5 hb
      replace cy_6 := cellK cy_6 hb
      replace cy_7 := cellK cy_7 hb
      replace cy_8 := cellK cy_8 hb
      replace Ex0 := cellK Ex0 hb
      replace Ex1 := cellK Ex1 hb
      replace Ex2 := cellK Ex2 hb
      replace Ex3 := cellK Ex3 hb
      replace Ex4 := cellK Ex4 hb
      replace Ex5 := cellK Ex5 hb
      replace Ex6 := cellK Ex6 hb
      replace Ex7 := cellK Ex7 hb
      replace Ex8 := cellK Ex8 hb
      replace Ey0 := cellK Ey0 hb
      replace Ey1 := cellK Ey1 hb
      replace Ey2 := cellK Ey2 hb
      replace cbx := cellK cbx hb
      clear hb
      try go_wp2_with fail
      refine hK.out _ _ ⟨cs_0, cs_1, cs_2, cy_0, cy_1, cy_2, cy_3, cy_4, cy_5, cy_6, cy_7, cy_8⟩ (fun hH => ?_)
      clear hK K
      try simp only [Act.put, List.setIfInBounds_toArray, List.set_cons_zero, List.set_cons_succ]
      clear hH
      have cs_0 : w5.cell? ⟨u.heap.size, 0, none⟩ = some (.bool sht) := Bls.at 0 rfl
      have cs_1 : w5.cell? ⟨u.heap.size, 1, none⟩ = some (.slice aht nht cht) := Bls.at 1 rfl
      have cs_2 : w5.cell? ⟨u.heap.size, 2, none⟩ = some (.slice Aht Nht Cht) := Bls.at 2 rfl
      have fs := Bls.free
      have Ls : u.heap.size < w5.heap.size := Bls.lt
      refine U_last (by kernel_rfl) rfl (by kernel_rfl) (fun K hK => ?_)
      go_simp
      refine hK.out _ _ ?_
      clear hK K
      intro w6 hW
      have hsz := hs.size
      have ls := Bls.lt
      have ly := Bly.lt
      have hbw : Below w.heap.size w5 w6 := by rw [hW]; exact (Below.setCell (Below.setCell (Below.setCell (Below.refl w.heap.size w5) (by first | exact Nat.le_refl _ | omega | (have := hs.size; simp; done) | (have := hs.size; simp; omega)) _) (by first | exact Nat.le_refl _ | omega | (have := hs.size; simp; done) | (have := hs.size; simp; omega)) _) (by first | exact Nat.le_refl _ | omega | (have := hs.size; simp; done) | (have := hs.size; simp; omega)) _)
      have hs1 : Below w.heap.size w w6 := hs.trans hbw
      have hk : KeepD w5 w6 := by rw [hW]; exact (KeepD.set (KeepD.set (KeepD.set (KeepD.refl _) Bls.ty (by decide) _ _) (TyB.store Bls.ty _ _) (by decide) _ _) (TyB.store (TyB.store Bls.ty _ _) _ _) (by decide) _ _)
      have Bl1s : Bx w6 (u.heap.size) 32 #[.bool shtn, .slice ahtn nhtn chtn, .slice Ahtn Nhtn Chtn] := by rw [hW]; exact (Bx.set (Bx.set (Bx.set Bls 0 _ rfl) 1 _ rfl) 2 _ rfl)
      have Bl1y : Bx w6 (wr.heap.size) 120 #[.bool gx1, .slice ax1 nx1 cx1, .slice Ax1 Nx1 Dx1, .bool gx2, .slice ax2 nx2 cx2, .slice Ax2 Nx2 Dx2, .bool gx3, .slice ax3 nx3 cx3, .slice Ax3 Nx3 Dx3] := by rw [hW]; exact (Bx.far (Bx.far (Bx.far Bly (by first | omega | (simp; done) | (simp; omega)) _) (by first | omega | (simp; done) | (simp; omega)) _) (by first | omega | (simp; done) | (simp; omega)) _)
      replace hs := hs1
      clear hs1
      have hJ1 : J k w6 := by rw [hW]; exact (hJs _ _ _ (hJs _ _ _ (hJs _ _ _ hJ (by first | exact Nat.le_refl _ | omega) Bls.ty _ _) (by first | exact Nat.le_refl _ | omega) (TyB.store Bls.ty _ _) _ _) (by first | exact Nat.le_refl _ | omega) (TyB.store (TyB.store Bls.ty _ _) _ _) _ _)
      replace hJ := hJ1
      clear hJ1
      replace Bls := Bl1s
      clear Bl1s
      replace Bly := Bl1y
      clear Bl1y
      replace hx1 := hx1.keep hk
      replace hx2 := hx2.keep hk
      replace hx3 := hx3.keep hk
      replace hy1 := hy1.keep hk
      replace ht := ht.keep hk
      replace hth := hth.keep hk
      replace hqt := hqt.keep hk
      replace htn := htn.keep hk
      replace Ex0 := cellB Ex0 hbw (by first | assumption | (show _ < _; omega))
      replace Ex1 := cellB Ex1 hbw (by first | assumption | (show _ < _; omega))
      replace Ex2 := cellB Ex2 hbw (by first | assumption | (show _ < _; omega))
      replace Ex3 := cellB Ex3 hbw (by first | assumption | (show _ < _; omega))
      replace Ex4 := cellB Ex4 hbw (by first | assumption | (show _ < _; omega))
      replace Ex5 := cellB Ex5 hbw (by first | assumption | (show _ < _; omega))
      replace Ex6 := cellB Ex6 hbw (by first | assumption | (show _ < _; omega))
      replace Ex7 := cellB Ex7 hbw (by first | assumption | (show _ < _; omega))
      replace Ex8 := cellB Ex8 hbw (by first | assumption | (show _ < _; omega))
      replace Ey0 := cellB Ey0 hbw (by first | assumption | (show _ < _; omega))
      replace Ey1 := cellB Ey1 hbw (by first | assumption | (show _ < _; omega))
      replace Ey2 := cellB Ey2 hbw (by first | assumption | (show _ < _; omega))
      replace cbx := cellB cbx hbw (by first | assumption | (show _ < _; omega))
      clear hW hk hsz hbw ls ly
      try simp only [Act.put, List.setIfInBounds_toArray, List.set_cons_zero, List.set_cons_succ]
      clear cs_0 cs_1 cs_2 cy_0 cy_1 cy_2 cy_3 cy_4 cy_5 cy_6 cy_7 cy_8
      have SW1 := Lib.hid (IntWalk.i64_in ((k : Int) + 1) (by omega))
      have SW2 := Lib.hid (show (0 : Int) ≤ (k : Int) + 1 by omega)
      have SW3 := Lib.hid (show ((k : Int) + 1).toNat = k + 1 by omega)
      go_upto_region 5 with fail
      refine (wpIn_wide (n := 1)).1 ?_
      refine UI_region (S := fun w' => w'.cell? ⟨u.heap.size, 0, none⟩ = some (.bool shtn) ∧ w'.cell? ⟨u.heap.size, 1, none⟩ = some (.slice ahtn nhtn chtn) ∧ w'.cell? ⟨u.heap.size, 2, none⟩ = some (.slice Ahtn Nhtn Chtn) ∧ w'.cell? ⟨wr.heap.size, 0, none⟩ = some (.bool gx1) ∧ w'.cell? ⟨wr.heap.size, 1, none⟩ = some (.slice ax1 nx1 cx1) ∧ w'.cell? ⟨wr.heap.size, 2, none⟩ = some (.slice Ax1 Nx1 Dx1) ∧ w'.cell? ⟨wr.heap.size, 3, none⟩ = some (.bool gx2) ∧ w'.cell? ⟨wr.heap.size, 4, none⟩ = some (.slice ax2 nx2 cx2) ∧ w'.cell? ⟨wr.heap.size, 5, none⟩ = some (.slice Ax2 Nx2 Dx2) ∧ w'.cell? ⟨wr.heap.size, 6, none⟩ = some (.bool gx3) ∧ w'.cell? ⟨wr.heap.size, 7, none⟩ = some (.slice ax3 nx3 cx3) ∧ w'.cell? ⟨wr.heap.size, 8, none⟩ = some (.slice Ax3 Nx3 Dx3) ∧ w'.cell? ⟨bx, 0, none⟩ = some (.slice (some ⟨bbx, oxx, none⟩) l.length cap) ∧ w'.cell? ⟨bbx, oxx + (k + 1) * 9, none⟩ = some (.bool gy1) ∧ w'.cell? ⟨bbx, oxx + (k + 1) * 9 + 1, none⟩ = some (.slice ay1 ny1 cy1) ∧ w'.cell? ⟨bbx, oxx + (k + 1) * 9 + 2, none⟩ = some (.slice Ay1 Ny1 Dy1)) (by kernel_rfl) 13 ?_
      refine AnyUI.abs ?_
      intro w7 hW
      have hb : Below w6.heap.size w6 w7 := by rw [hW]; exact bDrew _
      replace hs := bStep hs hb
      replace Bls := Bls.mono hb
      replace Bly := Bly.mono hb
      replace hx1 := hx1.mono hb
      replace hx2 := hx2.mono hb
      replace hx3 := hx3.mono hb
      replace hy1 := hy1.mono hb
      replace ht := ht.mono hb
      replace hth := hth.mono hb
      replace hqt := hqt.mono hb
      replace htn := htn.mono hb
      replace hJ := hJb _ _ _ hJ hb
      replace Ex0 := cellK Ex0 hb
      replace Ex1 := cellK Ex1 hb
      replace Ex2 := cellK Ex2 hb
      replace Ex3 := cellK Ex3 hb
      replace Ex4 := cellK Ex4 hb
      replace Ex5 := cellK Ex5 hb
      replace Ex6 := cellK Ex6 hb
      replace Ex7 := cellK Ex7 hb
      replace Ex8 := cellK Ex8 hb
      replace Ey0 := cellK Ey0 hb
      replace Ey1 := cellK Ey1 hb
      replace Ey2 := cellK Ey2 hb
      replace cbx := cellK cbx hb
      clear hb hW
      have cs_0 : w7.cell? ⟨u.heap.size, 0, none⟩ = some (.bool shtn) := Bls.at 0 rfl
      have cs_1 : w7.cell? ⟨u.heap.size, 1, none⟩ = some (.slice ahtn nhtn chtn) := Bls.at 1 rfl
      have cs_2 : w7.cell? ⟨u.heap.size, 2, none⟩ = some (.slice Ahtn Nhtn Chtn) := Bls.at 2 rfl
      have cy_0 : w7.cell? ⟨wr.heap.size, 0, none⟩ = some (.bool gx1) := Bly.at 0 rfl
      have cy_1 : w7.cell? ⟨wr.heap.size, 1, none⟩ = some (.slice ax1 nx1 cx1) := Bly.at 1 rfl
      have cy_2 : w7.cell? ⟨wr.heap.size, 2, none⟩ = some (.slice Ax1 Nx1 Dx1) := Bly.at 2 rfl
      have cy_3 : w7.cell? ⟨wr.heap.size, 3, none⟩ = some (.bool gx2) := Bly.at 3 rfl
      have cy_4 : w7.cell? ⟨wr.heap.size, 4, none⟩ = some (.slice ax2 nx2 cx2) := Bly.at 4 rfl
      have cy_5 : w7.cell? ⟨wr.heap.size, 5, none⟩ = some (.slice Ax2 Nx2 Dx2) := Bly.at 5 rfl
      have cy_6 : w7.cell? ⟨wr.heap.size, 6, none⟩ = some (.bool gx3) := Bly.at 6 rfl
      have cy_7 : w7.cell? ⟨wr.heap.size, 7, none⟩ = some (.slice ax3 nx3 cx3) := Bly.at 7 rfl
      have cy_8 : w7.cell? ⟨wr.heap.size, 8, none⟩ = some (.slice Ax3 Nx3 Dx3) := Bly.at 8 rfl
      have hH := (show w7.cell? ⟨u.heap.size, 0, none⟩ = some (.bool shtn) ∧ w7.cell? ⟨u.heap.size, 1, none⟩ = some (.slice ahtn nhtn chtn) ∧ w7.cell? ⟨u.heap.size, 2, none⟩ = some (.slice Ahtn Nhtn Chtn) ∧ w7.cell? ⟨wr.heap.size, 0, none⟩ = some (.bool gx1) ∧ w7.cell? ⟨wr.heap.size, 1, none⟩ = some (.slice ax1 nx1 cx1) ∧ w7.cell? ⟨wr.heap.size, 2, none⟩ = some (.slice Ax1 Nx1 Dx1) ∧ w7.cell? ⟨wr.heap.size, 3, none⟩ = some (.bool gx2) ∧ w7.cell? ⟨wr.heap.size, 4, none⟩ = some (.slice ax2 nx2 cx2) ∧ w7.cell? ⟨wr.heap.size, 5, none⟩ = some (.slice Ax2 Nx2 Dx2) ∧ w7.cell? ⟨wr.heap.size, 6, none⟩ = some (.bool gx3) ∧ w7.cell? ⟨wr.heap.size, 7, none⟩ = some (.slice ax3 nx3 cx3) ∧ w7.cell? ⟨wr.heap.size, 8, none⟩ = some (.slice Ax3 Nx3 Dx3) ∧ w7.cell? ⟨bx, 0, none⟩ = some (.slice (some ⟨bbx, oxx, none⟩) l.length cap) ∧ w7.cell? ⟨bbx, oxx + (k + 1) * 9, none⟩ = some (.bool gy1) ∧ w7.cell? ⟨bbx, oxx + (k + 1) * 9 + 1, none⟩ = some (.slice ay1 ny1 cy1) ∧ w7.cell? ⟨bbx, oxx + (k + 1) * 9 + 2, none⟩ = some (.slice Ay1 Ny1 Dy1) from ⟨cs_0, cs_1, cs_2, cy_0, cy_1, cy_2, cy_3, cy_4, cy_5, cy_6, cy_7, cy_8, cbx, Ey0, Ey1, Ey2⟩)
      refine UI_take (i := 0) (v := ?_) (by kernel_rfl) rfl (by kernel_rfl) (by kernel_rfl) (by kernel_rfl) (by kernel_rfl) (fun _ _ _ h => h) (Or.inl ⟨by rfl, ?_⟩) (fun _ => rfl) hH ?_
      rotate_left
      · intro w hSw
        try dsimp only at hSw
        go_simp
        try with_reducible rfl
      try simp only [Act.put, List.setIfInBounds_toArray, List.set_cons_zero, List.set_cons_succ]
      refine UI_take (i := 1) (v := ?_) (by kernel_rfl) rfl (by kernel_rfl) (by kernel_rfl) (by kernel_rfl) (by kernel_rfl) (fun _ _ _ h => h) (Or.inl ⟨by rfl, ?_⟩) (fun _ => rfl) hH ?_
      rotate_left
      · intro w hSw
        try dsimp only at hSw
        go_simp
        try with_reducible rfl
      try simp only [Act.put, List.setIfInBounds_toArray, List.set_cons_zero, List.set_cons_succ]
      refine UI_take (i := 2) (v := ?_) (by kernel_rfl) rfl (by kernel_rfl) (by kernel_rfl) (by kernel_rfl) (by kernel_rfl) (fun _ _ _ h => h) (Or.inl ⟨by rfl, ?_⟩) (fun _ => rfl) hH ?_
      rotate_left
      · intro w hSw
        try dsimp only at hSw
        go_simp
        try with_reducible rfl
      try simp only [Act.put, List.setIfInBounds_toArray, List.set_cons_zero, List.set_cons_succ]
      refine UI_take (i := 3) (v := ?_) (by kernel_rfl) rfl (by kernel_rfl) (by kernel_rfl) (by kernel_rfl) (by kernel_rfl) (fun _ _ _ h => h) (Or.inl ⟨by rfl, ?_⟩) (fun _ => rfl) hH ?_
      rotate_left
      · intro w hSw
        try dsimp only at hSw
        go_simp
        try with_reducible rfl
      try simp only [Act.put, List.setIfInBounds_toArray, List.set_cons_zero, List.set_cons_succ]
      refine UI_take (i := 4) (v := ?_) (by kernel_rfl) rfl (by kernel_rfl) (by kernel_rfl) (by kernel_rfl) (by kernel_rfl) (fun _ _ _ h => h) (Or.inl ⟨by rfl, ?_⟩) (fun _ => rfl) hH ?_
      rotate_left
      · intro w hSw
        try dsimp only at hSw
        go_simp
        try with_reducible rfl
      try simp only [Act.put, List.setIfInBounds_toArray, List.set_cons_zero, List.set_cons_succ]
      refine UI_take (i := 5) (v := ?_) (by kernel_rfl) rfl (by kernel_rfl) (by kernel_rfl) (by kernel_rfl) (by kernel_rfl) (fun _ _ _ h => h) (Or.inl ⟨by rfl, ?_⟩) (fun _ => rfl) hH ?_
      rotate_left
      · intro w hSw
        try dsimp only at hSw
        go_simp
        try with_reducible rfl
      try simp only [Act.put, List.setIfInBounds_toArray, List.set_cons_zero, List.set_cons_succ]
      refine UI_take (i := 6) (v := ?_) (by kernel_rfl) rfl (by kernel_rfl) (by kernel_rfl) (by kernel_rfl) (by kernel_rfl) (fun _ _ _ h => h) (Or.inl ⟨by rfl, ?_⟩) (fun _ => rfl) hH ?_
      rotate_left
      · intro w hSw
        try dsimp only at hSw
        have q0 := SW1.out
        have q1 := SW2.out
        have q2 := SW3.out
        go_simp
        try with_reducible rfl
      try simp only [Act.put, List.setIfInBounds_toArray, List.set_cons_zero, List.set_cons_succ]
      refine UI_take (i := 7) (v := ?_) (by kernel_rfl) rfl (by kernel_rfl) (by kernel_rfl) (by kernel_rfl) (by kernel_rfl) (fun _ _ _ h => h) (Or.inl ⟨by rfl, ?_⟩) (fun _ => rfl) hH ?_
      rotate_left
      · intro w hSw
        try dsimp only at hSw
        have q0 := SW1.out
        have q1 := SW2.out
        have q2 := SW3.out
        go_simp
        try with_reducible rfl
      try simp only [Act.put, List.setIfInBounds_toArray, List.set_cons_zero, List.set_cons_succ]
      refine UI_take (i := 8) (v := ?_) (by kernel_rfl) rfl (by kernel_rfl) (by kernel_rfl) (by kernel_rfl) (by kernel_rfl) (fun _ _ _ h => h) (Or.inl ⟨by rfl, ?_⟩) (fun _ => rfl) hH ?_
      rotate_left
      · intro w hSw
        try dsimp only at hSw
        go_simp
        try with_reducible rfl
      try simp only [Act.put, List.setIfInBounds_toArray, List.set_cons_zero, List.set_cons_succ]
      refine UI_take (i := 9) (v := ?_) (by kernel_rfl) rfl (by kernel_rfl) (by kernel_rfl) (by kernel_rfl) (by kernel_rfl) (fun _ _ _ h => h) (Or.inl ⟨by rfl, ?_⟩) (fun _ => rfl) hH ?_
      rotate_left
      · intro w hSw
        try dsimp only at hSw
        go_simp
        try with_reducible rfl
      try simp only [Act.put, List.setIfInBounds_toArray, List.set_cons_zero, List.set_cons_succ]
      clear hH
      refine UI_one (i := 10) (by kernel_rfl) rfl (fun K hK => ?_)
      go_simp
      refine ⟨trivial, ?_⟩
      (with_reducible refine ((callsIn_wide (n := 0)).2 (sc_thrown _ _ _ _ _ hx1 hy1 k1 k2 k3 k4 HNE2.out)).mono ?_)
      rintro e w8 ⟨_, rfl, hr, hb⟩
      obtain ⟨shr, ahr, nhr, chr, Ahr, Nhr, Chr, rfl⟩ := hr.shape
      replace hs := bStep hs hb
      replace Bls := Bls.mono hb
      replace Bly := Bly.mono hb
      replace hx1 := hx1.mono hb
      replace hx2 := hx2.mono hb
      replace hx3 := hx3.mono hb
      replace hy1 := hy1.mono hb
      replace ht := ht.mono hb
      replace hth := hth.mono hb
      replace hqt := hqt.mono hb
      replace htn := htn.mono hb
      replace hJ := hJb _ _ _ hJ hb
      replace cs_0 := cellK cs_0 hb
      replace cs_1 := cellK cs_1 hb
      replace cs_2 := cellK cs_2 hb
      replace cy_0 := cellK cy_0 hb
      replace cy_1 := cellK cy_1 hb
      replace cy_2 := cellK cy_2 hb
      replace cy_3 := cellK cy_3 hb
      replace cy_4 := cellK cy_4 hb
      replace cy_5 := cellK cy_5 hb
      replace cy_6 := cellK cy_6 hb
      replace cy_7 := cellK cy_7 hb
      replace cy_8 := cellK cy_8 hb
      replace cbx := cellK cbx hb
      replace Ey0 := cellK Ey0 hb
      replace Ey1 := cellK Ey1 hb
      replace Ey2 := cellK Ey2 hb
      replace Ex0 := cellK Ex0 hb
      replace Ex1 := cellK Ex1 hb
      replace Ex2 := cellK Ex2 hb
      replace Ex3 := cellK Ex3 hb
      replace Ex4 := cellK Ex4 hb
      replace Ex5 := cellK Ex5 hb
      replace Ex6 := cellK Ex6 hb
      replace Ex7 := cellK Ex7 hb
      replace Ex8 := cellK Ex8 hb
      clear hb
      try go_wp2_with fail
      refine hK.out _ _ ⟨cs_0, cs_1, cs_2, cy_0, cy_1, cy_2, cy_3, cy_4, cy_5, cy_6, cy_7, cy_8, cbx, Ey0, Ey1, Ey2⟩ (fun hH => ?_)
      clear hK K
      try simp only [Act.put, List.setIfInBounds_toArray, List.set_cons_zero, List.set_cons_succ]
      clear hH
      refine UI_one (i := 11) (by kernel_rfl) rfl (fun K hK => ?_)
      obtain ⟨fn, tmps, assign, body, hyd, hRd⟩ := hY k w8 _ _ hlt hJ (by have := hs.size; omega) htn (hr.of_eq rfl)
      go_simp
      refine hRd.mono ?_
      clear hRd hyd
      rintro e w9 ⟨rfl, hJ1, hkd, hsm⟩
      have hgy := hs.size
      replace Bls := (hsm _ (Nat.le_refl _) Bls.lt (.inl Bls.ty)).trans Bls
      replace Bly := (hsm _ (by omega) Bly.lt (.inr Bly.ty)).trans Bly
      replace htn := htn.keep hkd
      clear hJ
      have hJ := hJ1
      have hB0 := (hJw _ _ hJ).1
      replace Bls : Bx w9 (u.heap.size) 32 #[.bool shtn, .slice ahtn nhtn chtn, .slice Ahtn Nhtn Chtn] := Bls
      replace Bly : Bx w9 (wr.heap.size) 120 #[.bool gx1, .slice ax1 nx1 cx1, .slice Ax1 Nx1 Dx1, .bool gx2, .slice ax2 nx2 cx2, .slice Ax2 Nx2 Dx2, .bool gx3, .slice ax3 nx3 cx3, .slice Ax3 Nx3 Dx3] := Bly
      replace cs_0 := Bls.at 0 rfl
      replace cs_1 := Bls.at 1 rfl
      replace cs_2 := Bls.at 2 rfl
      replace cy_0 := Bly.at 0 rfl
      replace cy_1 := Bly.at 1 rfl
      replace cy_2 := Bly.at 2 rfl
      replace cy_3 := Bly.at 3 rfl
      replace cy_4 := Bly.at 4 rfl
      replace cy_5 := Bly.at 5 rfl
      replace cy_6 := Bly.at 6 rfl
      replace cy_7 := Bly.at 7 rfl
      replace cy_8 := Bly.at 8 rfl
      replace cbx := (hJw _ _ hJ).2
      replace Ey0 := cellK HE.out.1 hB0
      replace Ey1 := cellK HE.out.2.1 hB0
      replace Ey2 := cellK HE.out.2.2 hB0
      clear hs hx1 hx2 hx3 hy1 ht hth hqt hr hJ1 hB0 hkd hsm HE Ex0 Ex1 Ex2 Ex3 Ex4 Ex5 Ex6 Ex7 Ex8
      refine hK.out _ _ ⟨cs_0, cs_1, cs_2, cy_0, cy_1, cy_2, cy_3, cy_4, cy_5, cy_6, cy_7, cy_8, cbx, Ey0, Ey1, Ey2⟩ (fun hH => ?_)
      clear hK K
      try simp only [Act.put, List.setIfInBounds_toArray, List.set_cons_zero, List.set_cons_succ]
      refine UI_take (i := 12) (v := ?_) (by kernel_rfl) rfl (by kernel_rfl) (by kernel_rfl) (by kernel_rfl) (by kernel_rfl) (fun _ _ _ h => h) (Or.inl ⟨by rfl, ?_⟩) (fun _ => rfl) hH ?_
      rotate_left
      · intro w hSw
        try dsimp only at hSw
        have q0 := SW1.out
        have q1 := SW2.out
        have q2 := SW3.out
        go_simp
        try with_reducible rfl
      try simp only [Act.put, List.setIfInBounds_toArray, List.set_cons_zero, List.set_cons_succ]
      clear hH
      refine UI_end (by kernel_rfl) ?_
      clear cs_0 cs_1 cs_2 cy_0 cy_1 cy_2 cy_3 cy_4 cy_5 cy_6 cy_7 cy_8 cbx Ey0 Ey1 Ey2
      go_wp2
      go_roundw
      case rel => exact ⟨k + 1, by omega, by go_num, Bls.lt, hJ, ⟨_, _, _, _, _, _, _, Bls, htn⟩⟩
      all_goals first | (simp [intOf]; done) | (simp [intOf]; omega)
    · obtain rfl : k = l.length - 1 := by omega
      go_wp2
      go_end0
      exact ⟨⟨_, rfl⟩, hJ⟩
end Go.Proofs.YtkfekkhhfpkfaaaGreat
