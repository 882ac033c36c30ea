/-
  The contracts of the program's fractions, third part: Add, Sub, Same, Cmp, Text.
-/
import Derived.Test.YtkfekkhhfpkfaaaGreatRatP2
import Derived.BigQuiet
set_option linter.unusedSimpArgs false
set_option linter.unusedVariables false
namespace Go.Proofs.YtkfekkhhfpkfaaaGreat
open Go.RowKit Dg
attribute [local go_sem ↓] Go.wp_at_zero Go.wp_at_succ

set_option maxRecDepth 100000 in
set_option maxHeartbeats 4000000 in
theorem p_Add_calls (vx vy : Value) (x y : Rat) (K : Nat) (w : World) (hx : PV w vx x) (hy : PV w vy y) (hK : K ≤ 268435456) (sx : SzP K x) (sy : SzP K y) : Calls Tryz.prog 54 #[vx, vy] w (RetP w (x + y)) := by
  obtain ⟨gx, ax, nx, cx, Ax, Nx, Cx, rfl⟩ := hx.shape
  have egx := hx.sign
  have EGx := Lib.hid egx
  have hxn := hx.parts.2.1
  have hxd := hx.parts.2.2
  obtain ⟨gy, ay, ny, cy, Ay, Ny, Cy, rfl⟩ := hy.shape
  have egy := hy.sign
  have EGy := Lib.hid egy
  have hyn := hy.parts.2.1
  have hyd := hy.parts.2.2
  have sx1 := sx.1
  have sx2 := sx.2
  have sy1 := sy.1
  have sy2 := sy.2
  have hdx := x.den_pos
  have hdy := y.den_pos
  have hd0 : 0 < x.den * y.den := Nat.mul_pos hdx hdy
  have zA : x.num.natAbs * y.den < 18446744073709551616 ^ (K + K) := pow_mul_ltP sx1 sy2
  have zB : y.num.natAbs * x.den < 18446744073709551616 ^ (K + K) := pow_mul_ltP sy1 sx2
  have zD : x.den * y.den < 18446744073709551616 ^ (K + K) := pow_mul_ltP sx2 sy2
  have zS := pow_add_ltP zA zB
  have hp : 18446744073709551616 ^ (K + K) ≤ 18446744073709551616 ^ (K + K + 1) := Nat.pow_le_pow_right (by omega) (by omega)
  have zD' := Nat.lt_of_lt_of_le zD hp
  have hK' : K ≤ 1099511627776 := by omega
  have hK2 : K + K ≤ 1099511627776 := by omega
  have hK3 : K + K + 1 ≤ 1099511627774 := by omega
  have e1 := add_same x y
  have e2 := add_diff x y
  have e3 := add_diff' x y
  rw [← egx, ← egy] at e1 e2 e3
  generalize hN1 : x.num.natAbs * y.den = N1 at *
  generalize hN2 : y.num.natAbs * x.den = N2 at *
  generalize hN3 : x.den * y.den = N3 at *
  have zS1 : N1 - N2 < 18446744073709551616 ^ (K + K + 1) := Nat.lt_of_le_of_lt (Nat.sub_le _ _) (Nat.lt_of_lt_of_le zA hp)
  have zS2 : N2 - N1 < 18446744073709551616 ^ (K + K + 1) := Nat.lt_of_le_of_lt (Nat.sub_le _ _) (Nat.lt_of_lt_of_le zB hp)
  generalize x + y = xy at *
  have E1 := Lib.hid e1
  have E2 := Lib.hid e2
  have E3 := Lib.hid e3
  have HN1 := Lib.hid hN1
  have HN2 := Lib.hid hN2
  have HN3 := Lib.hid hN3
  have ZS := Lib.hid zS
  have ZS1 := Lib.hid zS1
  have ZS2 := Lib.hid zS2
  clear e1 e2 e3 hN1 hN2 hN3 hp zS zS1 zS2 zD
  clear egx
  clear egy
  have hs := Below.refl w.heap.size w
  go_enter Tryz.func54, Tryz.ntmps54
  go_wp2_with fail
  clear hx hy
  refine Code.abs ?_
  intro w1 hW
  have hsz := hs.size
  have hs1 : Below w.heap.size w w1 := by rw [hW]; exact (Below.alloc (Below.alloc (Below.alloc hs (by first | exact hs.size | (have := hs.size; simp; done) | (have := hs.size; simp; omega)) _) (by first | exact hs.size | (have := hs.size; simp; done) | (have := hs.size; simp; omega)) _) (by first | exact hs.size | (have := hs.size; simp; done) | (have := hs.size; simp; omega)) _)
  have hk : KeepD w w1 := by rw [hW]; exact ((((KeepD.refl _).alloc _).alloc _).alloc _)
  have Bl1x : Bx w1 (w.heap.size) 32 #[.bool gx, .slice ax nx cx, .slice Ax Nx Cx] := by rw [hW]; exact (((Bx.new' _ _ _ _ (by first | rfl | (simp; done))).alloc _).alloc _)
  have Bl1y : Bx w1 (w.heap.size + 1) 32 #[.bool gy, .slice ay ny cy, .slice Ay Ny Cy] := by rw [hW]; exact ((Bx.new' _ _ _ _ (by first | rfl | (simp; done))).alloc _)
  have Bl1z : Bx w1 (w.heap.size + 1 + 1) 32 #[.bool false, .slice none 0 0, .slice none 0 0] := by rw [hW]; exact (Bx.new' _ _ _ _ (by first | rfl | (simp; done)))
  replace hs := hs1
  clear hs1
  have Blx := Bl1x
  clear Bl1x
  have Bly := Bl1y
  clear Bl1y
  have Blz := Bl1z
  clear Bl1z
  replace hxn := hxn.keep hk
  replace hxd := hxd.keep hk
  replace hyn := hyn.keep hk
  replace hyd := hyd.keep hk
  clear hW hk hsz
  have hz_w1 : w.heap.size + 1 + 1 < w1.heap.size := Blz.lt
  have hb := bDrew w1
  replace hs := bStep hs hb
  replace Blx := Blx.mono hb
  replace Bly := Bly.mono hb
  replace Blz := Blz.mono hb
  replace hxn := hxn.mono hb
  replace hxd := hxd.mono hb
  replace hyn := hyn.mono hb
  replace hyd := hyd.mono hb
  clear hb
  have cx_0 : (w1.drew).cell? ⟨w.heap.size, 0, none⟩ = some (.bool gx) := Blx.at 0 rfl
  have cx_1 : (w1.drew).cell? ⟨w.heap.size, 1, none⟩ = some (.slice ax nx cx) := Blx.at 1 rfl
  have cx_2 : (w1.drew).cell? ⟨w.heap.size, 2, none⟩ = some (.slice Ax Nx Cx) := Blx.at 2 rfl
  have cy_0 : (w1.drew).cell? ⟨w.heap.size + 1, 0, none⟩ = some (.bool gy) := Bly.at 0 rfl
  have cy_1 : (w1.drew).cell? ⟨w.heap.size + 1, 1, none⟩ = some (.slice ay ny cy) := Bly.at 1 rfl
  have cy_2 : (w1.drew).cell? ⟨w.heap.size + 1, 2, none⟩ = some (.slice Ay Ny Cy) := Bly.at 2 rfl
  go_region_held3 (fun w' => w'.cell? ⟨w.heap.size, 0, none⟩ = some (.bool gx) ∧ w'.cell? ⟨w.heap.size, 1, none⟩ = some (.slice ax nx cx) ∧ w'.cell? ⟨w.heap.size, 2, none⟩ = some (.slice Ax Nx Cx) ∧ w'.cell? ⟨w.heap.size + 1, 0, none⟩ = some (.bool gy) ∧ w'.cell? ⟨w.heap.size + 1, 1, none⟩ = some (.slice ay ny cy) ∧ w'.cell? ⟨w.heap.size + 1, 2, none⟩ = some (.slice Ay Ny Cy))
    (first | exact ⟨cx_0, cx_1, cx_2, cy_0, cy_1, cy_2⟩ | go_keep)
    (first
      | (go_at_call 81; (with_reducible refine (p_under_calls _ _ _ hdx hxd).mono ?_); rintro e w2 ⟨_, rfl, hd, hb⟩; obtain ⟨ahd, nhd, chd, rfl⟩ := hd.shape; replace hs := bStep hs hb; replace Blx := Blx.mono hb; replace Bly := Bly.mono hb; replace Blz := Blz.mono hb; replace hxn := hxn.mono hb; replace hxd := hxd.mono hb; replace hyn := hyn.mono hb; replace hyd := hyd.mono hb; replace cx_0 := cellK cx_0 hb; replace cx_1 := cellK cx_1 hb; replace cx_2 := cellK cx_2 hb; replace cy_0 := cellK cy_0 hb; replace cy_1 := cellK cy_1 hb; replace cy_2 := cellK cy_2 hb; clear hb)
      | (go_at_call 81; (with_reducible refine (p_under_calls _ _ _ hdy hyd).mono ?_); rintro e w3 ⟨_, rfl, he, hb⟩; obtain ⟨ahe, nhe, che, rfl⟩ := he.shape; replace hs := bStep hs hb; replace Blx := Blx.mono hb; replace Bly := Bly.mono hb; replace Blz := Blz.mono hb; replace hxn := hxn.mono hb; replace hxd := hxd.mono hb; replace hyn := hyn.mono hb; replace hyd := hyd.mono hb; replace hd := hd.mono hb; replace cx_0 := cellK cx_0 hb; replace cx_1 := cellK cx_1 hb; replace cx_2 := cellK cx_2 hb; replace cy_0 := cellK cy_0 hb; replace cy_1 := cellK cy_1 hb; replace cy_2 := cellK cy_2 hb; clear hb))
  clear cx_0 cx_1 cx_2 cy_0 cy_1 cy_2
  go_wp2
  refine Code.abs ?_
  intro w4 hW
  have hsz := hs.size
  have lx := Blx.lt
  have ly := Bly.lt
  have lz := Blz.lt
  have hs1 : Below w.heap.size w w4 := by rw [hW]; exact hs
  have hk : KeepD w3 w4 := by rw [hW]; exact (KeepD.refl _)
  have Bl1x : Bx w4 (w.heap.size) 32 #[.bool gx, .slice ax nx cx, .slice Ax Nx Cx] := by rw [hW]; exact Blx
  have Bl1y : Bx w4 (w.heap.size + 1) 32 #[.bool gy, .slice ay ny cy, .slice Ay Ny Cy] := by rw [hW]; exact Bly
  have Bl1z : Bx w4 (w.heap.size + 1 + 1) 32 #[.bool false, .slice none 0 0, .slice none 0 0] := by rw [hW]; exact Blz
  replace hs := hs1
  clear hs1
  replace Blx := Bl1x
  clear Bl1x
  replace Bly := Bl1y
  clear Bl1y
  replace Blz := Bl1z
  clear Bl1z
  replace hxn := hxn.keep hk
  replace hxd := hxd.keep hk
  replace hyn := hyn.keep hk
  replace hyd := hyd.keep hk
  replace hd := hd.keep hk
  replace he := he.keep hk
  clear hW hk hsz lx ly lz
  have hb := bDrew w4
  replace hs := bStep hs hb
  replace Blx := Blx.mono hb
  replace Bly := Bly.mono hb
  replace Blz := Blz.mono hb
  replace hxn := hxn.mono hb
  replace hxd := hxd.mono hb
  replace hyn := hyn.mono hb
  replace hyd := hyd.mono hb
  replace hd := hd.mono hb
  replace he := he.mono hb
  clear hb
  have cx_0 : (w4.drew).cell? ⟨w.heap.size, 0, none⟩ = some (.bool gx) := Blx.at 0 rfl
  have cx_1 : (w4.drew).cell? ⟨w.heap.size, 1, none⟩ = some (.slice ax nx cx) := Blx.at 1 rfl
  have cx_2 : (w4.drew).cell? ⟨w.heap.size, 2, none⟩ = some (.slice Ax Nx Cx) := Blx.at 2 rfl
  have cy_0 : (w4.drew).cell? ⟨w.heap.size + 1, 0, none⟩ = some (.bool gy) := Bly.at 0 rfl
  have cy_1 : (w4.drew).cell? ⟨w.heap.size + 1, 1, none⟩ = some (.slice ay ny cy) := Bly.at 1 rfl
  have cy_2 : (w4.drew).cell? ⟨w.heap.size + 1, 2, none⟩ = some (.slice Ay Ny Cy) := Bly.at 2 rfl
  go_region_held3 (fun w' => w'.cell? ⟨w.heap.size, 0, none⟩ = some (.bool gx) ∧ w'.cell? ⟨w.heap.size, 1, none⟩ = some (.slice ax nx cx) ∧ w'.cell? ⟨w.heap.size, 2, none⟩ = some (.slice Ax Nx Cx) ∧ w'.cell? ⟨w.heap.size + 1, 0, none⟩ = some (.bool gy) ∧ w'.cell? ⟨w.heap.size + 1, 1, none⟩ = some (.slice ay ny cy) ∧ w'.cell? ⟨w.heap.size + 1, 2, none⟩ = some (.slice Ay Ny Cy))
    (first | exact ⟨cx_0, cx_1, cx_2, cy_0, cy_1, cy_2⟩ | go_keep)
    (first
      | (go_at_call 80; (with_reducible refine (ln_times hxn he sx1 sy2 hK' hK').mono ?_); rintro e w5 ⟨_, rfl, hA, hb⟩; obtain ⟨ahA, nhA, chA, rfl⟩ := hA.shape; replace hs := bStep hs hb; replace Blx := Blx.mono hb; replace Bly := Bly.mono hb; replace Blz := Blz.mono hb; replace hxn := hxn.mono hb; replace hxd := hxd.mono hb; replace hyn := hyn.mono hb; replace hyd := hyd.mono hb; replace hd := hd.mono hb; replace he := he.mono hb; replace cx_0 := cellK cx_0 hb; replace cx_1 := cellK cx_1 hb; replace cx_2 := cellK cx_2 hb; replace cy_0 := cellK cy_0 hb; replace cy_1 := cellK cy_1 hb; replace cy_2 := cellK cy_2 hb; clear hb; rw [HN1.out] at hA)
      | (go_at_call 80; (with_reducible refine (ln_times hyn hd sy1 sx2 hK' hK').mono ?_); rintro e w6 ⟨_, rfl, hB, hb⟩; obtain ⟨ahB, nhB, chB, rfl⟩ := hB.shape; replace hs := bStep hs hb; replace Blx := Blx.mono hb; replace Bly := Bly.mono hb; replace Blz := Blz.mono hb; replace hxn := hxn.mono hb; replace hxd := hxd.mono hb; replace hyn := hyn.mono hb; replace hyd := hyd.mono hb; replace hd := hd.mono hb; replace he := he.mono hb; replace hA := hA.mono hb; replace cx_0 := cellK cx_0 hb; replace cx_1 := cellK cx_1 hb; replace cx_2 := cellK cx_2 hb; replace cy_0 := cellK cy_0 hb; replace cy_1 := cellK cy_1 hb; replace cy_2 := cellK cy_2 hb; clear hb; rw [HN2.out] at hB))
  clear cx_0 cx_1 cx_2 cy_0 cy_1 cy_2
  go_wp2_with fail
  refine (ln_times hd he sx2 sy2 hK' hK').mono ?_
  rintro e w7 ⟨_, rfl, hD, hb⟩
  obtain ⟨ahD, nhD, chD, rfl⟩ := hD.shape
  replace hs := bStep hs hb
  replace Blx := Blx.mono hb
  replace Bly := Bly.mono hb
  replace Blz := Blz.mono hb
  replace hxn := hxn.mono hb
  replace hxd := hxd.mono hb
  replace hyn := hyn.mono hb
  replace hyd := hyd.mono hb
  replace hd := hd.mono hb
  replace he := he.mono hb
  replace hA := hA.mono hb
  replace hB := hB.mono hb
  clear hb
  rw [HN3.out] at hD
  by_cases hgg : gx = gy
  · subst hgg
    have cx_0 : w7.cell? ⟨w.heap.size, 0, none⟩ = some (.bool gx) := Blx.at 0 rfl
    have cx_1 : w7.cell? ⟨w.heap.size, 1, none⟩ = some (.slice ax nx cx) := Blx.at 1 rfl
    have cx_2 : w7.cell? ⟨w.heap.size, 2, none⟩ = some (.slice Ax Nx Cx) := Blx.at 2 rfl
    have cy_0 : w7.cell? ⟨w.heap.size + 1, 0, none⟩ = some (.bool gx) := Bly.at 0 rfl
    have cy_1 : w7.cell? ⟨w.heap.size + 1, 1, none⟩ = some (.slice ay ny cy) := Bly.at 1 rfl
    have cy_2 : w7.cell? ⟨w.heap.size + 1, 2, none⟩ = some (.slice Ay Ny Cy) := Bly.at 2 rfl
    go_wp2
    clear cx_0 cx_1 cx_2 cy_0 cy_1 cy_2
    refine Code.abs ?_
    intro w8 hW
    have hsz := hs.size
    have lx := Blx.lt
    have ly := Bly.lt
    have lz := Blz.lt
    have hs1 : Below w.heap.size w w8 := by rw [hW]; exact hs
    have hk : KeepD w7 w8 := by rw [hW]; exact (KeepD.refl _)
    have Bl1x : Bx w8 (w.heap.size) 32 #[.bool gx, .slice ax nx cx, .slice Ax Nx Cx] := by rw [hW]; exact Blx
    have Bl1y : Bx w8 (w.heap.size + 1) 32 #[.bool gx, .slice ay ny cy, .slice Ay Ny Cy] := by rw [hW]; exact Bly
    have Bl1z : Bx w8 (w.heap.size + 1 + 1) 32 #[.bool false, .slice none 0 0, .slice none 0 0] := by rw [hW]; exact Blz
    replace hs := hs1
    clear hs1
    replace Blx := Bl1x
    clear Bl1x
    replace Bly := Bl1y
    clear Bl1y
    replace Blz := Bl1z
    clear Bl1z
    replace hxn := hxn.keep hk
    replace hxd := hxd.keep hk
    replace hyn := hyn.keep hk
    replace hyd := hyd.keep hk
    replace hd := hd.keep hk
    replace he := he.keep hk
    replace hA := hA.keep hk
    replace hB := hB.keep hk
    replace hD := hD.keep hk
    clear hW hk hsz lx ly lz
    have hb := bDrew w8
    replace hs := bStep hs hb
    replace Blx := Blx.mono hb
    replace Bly := Bly.mono hb
    replace Blz := Blz.mono hb
    replace hxn := hxn.mono hb
    replace hxd := hxd.mono hb
    replace hyn := hyn.mono hb
    replace hyd := hyd.mono hb
    replace hd := hd.mono hb
    replace he := he.mono hb
    replace hA := hA.mono hb
    replace hB := hB.mono hb
    replace hD := hD.mono hb
    clear hb
    have cx_0 : (w8.drew).cell? ⟨w.heap.size, 0, none⟩ = some (.bool gx) := Blx.at 0 rfl
    have cx_1 : (w8.drew).cell? ⟨w.heap.size, 1, none⟩ = some (.slice ax nx cx) := Blx.at 1 rfl
    have cx_2 : (w8.drew).cell? ⟨w.heap.size, 2, none⟩ = some (.slice Ax Nx Cx) := Blx.at 2 rfl
    go_region_held3 (fun w' => w'.cell? ⟨w.heap.size, 0, none⟩ = some (.bool gx) ∧ w'.cell? ⟨w.heap.size, 1, none⟩ = some (.slice ax nx cx) ∧ w'.cell? ⟨w.heap.size, 2, none⟩ = some (.slice Ax Nx Cx))
      (first | exact ⟨cx_0, cx_1, cx_2⟩ | exact ⟨cellO (cellO (cellO (cx_0) (by first | omega | (have := hs.size; simp; done) | (have := hs.size; simp; omega))) (by first | omega | (have := hs.size; simp; done) | (have := hs.size; simp; omega))) (by first | omega | (have := hs.size; simp; done) | (have := hs.size; simp; omega)), cellO (cellO (cellO (cx_1) (by first | omega | (have := hs.size; simp; done) | (have := hs.size; simp; omega))) (by first | omega | (have := hs.size; simp; done) | (have := hs.size; simp; omega))) (by first | omega | (have := hs.size; simp; done) | (have := hs.size; simp; omega)), cellO (cellO (cellO (cx_2) (by first | omega | (have := hs.size; simp; done) | (have := hs.size; simp; omega))) (by first | omega | (have := hs.size; simp; done) | (have := hs.size; simp; omega))) (by first | omega | (have := hs.size; simp; done) | (have := hs.size; simp; omega))⟩ | go_keep)
      (first
        | (go_at_call 109; (with_reducible refine (ln_plus hA hB zA zB hK2).mono ?_); rintro e w9 ⟨_, rfl, hS, hb⟩; obtain ⟨ahS, nhS, chS, rfl⟩ := hS.shape; replace hs := bStep hs hb; replace Blx := Blx.mono hb; replace Bly := Bly.mono hb; replace Blz := Blz.mono hb; replace hxn := hxn.mono hb; replace hxd := hxd.mono hb; replace hyn := hyn.mono hb; replace hyd := hyd.mono hb; replace hd := hd.mono hb; replace he := he.mono hb; replace hA := hA.mono hb; replace hB := hB.mono hb; replace hD := hD.mono hb; replace cx_0 := cellK cx_0 hb; replace cx_1 := cellK cx_1 hb; replace cx_2 := cellK cx_2 hb; clear hb)
        | (go_at_call 76; (with_reducible refine (p_reduced_calls gx _ _ _ _ _ _ hS hD hd0 hK3 ZS.out zD').mono ?_); rintro e w10 ⟨_, rfl, hQ, hb⟩; obtain ⟨shQ, ahQ, nhQ, chQ, AhQ, NhQ, ChQ, rfl⟩ := hQ.shape; replace hs := bStep hs hb; replace Blx := Blx.mono hb; replace Bly := Bly.mono hb; replace Blz := Blz.mono hb; replace hxn := hxn.mono hb; replace hxd := hxd.mono hb; replace hyn := hyn.mono hb; replace hyd := hyd.mono hb; replace hd := hd.mono hb; replace he := he.mono hb; replace hA := hA.mono hb; replace hB := hB.mono hb; replace hD := hD.mono hb; replace hS := hS.mono hb; replace cx_0 := cellK cx_0 hb; replace cx_1 := cellK cx_1 hb; replace cx_2 := cellK cx_2 hb; clear hb; have cz_0 : w10.cell? ⟨w.heap.size + 1 + 1, 0, none⟩ = some (.bool false) := Blz.at 0 rfl; have cz_1 : w10.cell? ⟨w.heap.size + 1 + 1, 1, none⟩ = some (.slice none 0 0) := Blz.at 1 rfl; have cz_2 : w10.cell? ⟨w.heap.size + 1 + 1, 2, none⟩ = some (.slice none 0 0) := Blz.at 2 rfl; have fz := Blz.free))
    clear cx_0 cx_1 cx_2
    go_wp2
    refine bodyPost.abs ?_
    intro w11 hW
    have hsz := hs.size
    have lx := Blx.lt
    have ly := Bly.lt
    have lz := Blz.lt
    have hs1 : Below w.heap.size w w11 := by rw [hW]; exact (Below.setCell (Below.setCell (Below.setCell hs (by first | exact Nat.le_refl _ | omega | (have := hs.size; simp; done) | (have := hs.size; simp; omega)) _) (by first | exact Nat.le_refl _ | omega | (have := hs.size; simp; done) | (have := hs.size; simp; omega)) _) (by first | exact Nat.le_refl _ | omega | (have := hs.size; simp; done) | (have := hs.size; simp; omega)) _)
    have hk : KeepD w10 w11 := by rw [hW]; exact (KeepD.set (KeepD.set (KeepD.set (KeepD.refl _) Blz.ty (by decide) _ _) (TyB.store Blz.ty _ _) (by decide) _ _) (TyB.store (TyB.store Blz.ty _ _) _ _) (by decide) _ _)
    have Bl1x : Bx w11 (w.heap.size) 32 #[.bool gx, .slice ax nx cx, .slice Ax Nx Cx] := by rw [hW]; exact (Bx.far (Bx.far (Bx.far Blx (by first | omega | (simp; done) | (simp; omega)) _) (by first | omega | (simp; done) | (simp; omega)) _) (by first | omega | (simp; done) | (simp; omega)) _)
    have Bl1y : Bx w11 (w.heap.size + 1) 32 #[.bool gx, .slice ay ny cy, .slice Ay Ny Cy] := by rw [hW]; exact (Bx.far (Bx.far (Bx.far Bly (by first | omega | (simp; done) | (simp; omega)) _) (by first | omega | (simp; done) | (simp; omega)) _) (by first | omega | (simp; done) | (simp; omega)) _)
    have Bl1z : Bx w11 (w.heap.size + 1 + 1) 32 #[.bool shQ, .slice ahQ nhQ chQ, .slice AhQ NhQ ChQ] := by rw [hW]; exact (Bx.set (Bx.set (Bx.set Blz 0 _ rfl) 1 _ rfl) 2 _ rfl)
    replace hs := hs1
    clear hs1
    replace Blx := Bl1x
    clear Bl1x
    replace Bly := Bl1y
    clear Bl1y
    replace Blz := Bl1z
    clear Bl1z
    replace hxn := hxn.keep hk
    replace hxd := hxd.keep hk
    replace hyn := hyn.keep hk
    replace hyd := hyd.keep hk
    replace hd := hd.keep hk
    replace he := he.keep hk
    replace hA := hA.keep hk
    replace hB := hB.keep hk
    replace hD := hD.keep hk
    replace hS := hS.keep hk
    replace hQ := hQ.keep hk
    clear hW hk hsz lx ly lz
    exact ret_P rfl rfl rfl Blz (hQ.of_eq (E1.out (by first | rfl | trivial)).symm) hs
  · have hgb : (gx == gy) = false := by rw [beq_eq_false_iff_ne]; exact hgg
    have HGG := Lib.hid hgg
    clear hgg
    have cx_0 : w7.cell? ⟨w.heap.size, 0, none⟩ = some (.bool gx) := Blx.at 0 rfl
    have cx_1 : w7.cell? ⟨w.heap.size, 1, none⟩ = some (.slice ax nx cx) := Blx.at 1 rfl
    have cx_2 : w7.cell? ⟨w.heap.size, 2, none⟩ = some (.slice Ax Nx Cx) := Blx.at 2 rfl
    have cy_0 : w7.cell? ⟨w.heap.size + 1, 0, none⟩ = some (.bool gy) := Bly.at 0 rfl
    have cy_1 : w7.cell? ⟨w.heap.size + 1, 1, none⟩ = some (.slice ay ny cy) := Bly.at 1 rfl
    have cy_2 : w7.cell? ⟨w.heap.size + 1, 2, none⟩ = some (.slice Ay Ny Cy) := Bly.at 2 rfl
    go_wp2_with fail
    clear cx_0 cx_1 cx_2 cy_0 cy_1 cy_2
    refine (ln_cmp hA hB).mono ?_
    rintro e w8 ⟨rfl, hb⟩
    replace hs := bStep hs hb
    replace Blx := Blx.mono hb
    replace Bly := Bly.mono hb
    replace Blz := Blz.mono hb
    replace hxn := hxn.mono hb
    replace hxd := hxd.mono hb
    replace hyn := hyn.mono hb
    replace hyd := hyd.mono hb
    replace hd := hd.mono hb
    replace he := he.mono hb
    replace hA := hA.mono hb
    replace hB := hB.mono hb
    replace hD := hD.mono hb
    clear hb
    by_cases hle : N2 ≤ N1
    · have hord := ordN_ge hle
      have HLE := Lib.hid hle
      clear hle
      go_wp2
      refine Code.abs ?_
      intro w9 hW
      have hsz := hs.size
      have lx := Blx.lt
      have ly := Bly.lt
      have lz := Blz.lt
      have hs1 : Below w.heap.size w w9 := by rw [hW]; exact hs
      have hk : KeepD w8 w9 := by rw [hW]; exact (KeepD.refl _)
      have Bl1x : Bx w9 (w.heap.size) 32 #[.bool gx, .slice ax nx cx, .slice Ax Nx Cx] := by rw [hW]; exact Blx
      have Bl1y : Bx w9 (w.heap.size + 1) 32 #[.bool gy, .slice ay ny cy, .slice Ay Ny Cy] := by rw [hW]; exact Bly
      have Bl1z : Bx w9 (w.heap.size + 1 + 1) 32 #[.bool false, .slice none 0 0, .slice none 0 0] := by rw [hW]; exact Blz
      replace hs := hs1
      clear hs1
      replace Blx := Bl1x
      clear Bl1x
      replace Bly := Bl1y
      clear Bl1y
      replace Blz := Bl1z
      clear Bl1z
      replace hxn := hxn.keep hk
      replace hxd := hxd.keep hk
      replace hyn := hyn.keep hk
      replace hyd := hyd.keep hk
      replace hd := hd.keep hk
      replace he := he.keep hk
      replace hA := hA.keep hk
      replace hB := hB.keep hk
      replace hD := hD.keep hk
      clear hW hk hsz lx ly lz
      have hb := bDrew w9
      replace hs := bStep hs hb
      replace Blx := Blx.mono hb
      replace Bly := Bly.mono hb
      replace Blz := Blz.mono hb
      replace hxn := hxn.mono hb
      replace hxd := hxd.mono hb
      replace hyn := hyn.mono hb
      replace hyd := hyd.mono hb
      replace hd := hd.mono hb
      replace he := he.mono hb
      replace hA := hA.mono hb
      replace hB := hB.mono hb
      replace hD := hD.mono hb
      clear hb
      have cx_0 : (w9.drew).cell? ⟨w.heap.size, 0, none⟩ = some (.bool gx) := Blx.at 0 rfl
      have cx_1 : (w9.drew).cell? ⟨w.heap.size, 1, none⟩ = some (.slice ax nx cx) := Blx.at 1 rfl
      have cx_2 : (w9.drew).cell? ⟨w.heap.size, 2, none⟩ = some (.slice Ax Nx Cx) := Blx.at 2 rfl
      go_region_held3 (fun w' => w'.cell? ⟨w.heap.size, 0, none⟩ = some (.bool gx) ∧ w'.cell? ⟨w.heap.size, 1, none⟩ = some (.slice ax nx cx) ∧ w'.cell? ⟨w.heap.size, 2, none⟩ = some (.slice Ax Nx Cx))
        (first | exact ⟨cx_0, cx_1, cx_2⟩ | exact ⟨cellO (cellO (cellO (cx_0) (by first | omega | (have := hs.size; simp; done) | (have := hs.size; simp; omega))) (by first | omega | (have := hs.size; simp; done) | (have := hs.size; simp; omega))) (by first | omega | (have := hs.size; simp; done) | (have := hs.size; simp; omega)), cellO (cellO (cellO (cx_1) (by first | omega | (have := hs.size; simp; done) | (have := hs.size; simp; omega))) (by first | omega | (have := hs.size; simp; done) | (have := hs.size; simp; omega))) (by first | omega | (have := hs.size; simp; done) | (have := hs.size; simp; omega)), cellO (cellO (cellO (cx_2) (by first | omega | (have := hs.size; simp; done) | (have := hs.size; simp; omega))) (by first | omega | (have := hs.size; simp; done) | (have := hs.size; simp; omega))) (by first | omega | (have := hs.size; simp; done) | (have := hs.size; simp; omega))⟩ | go_keep)
        (first
          | (go_at_call 110; (with_reducible refine (ln_minus hA hB zA HLE.out hK2).mono ?_); rintro e w10 ⟨_, rfl, hS, hb⟩; obtain ⟨ahS, nhS, chS, rfl⟩ := hS.shape; replace hs := bStep hs hb; replace Blx := Blx.mono hb; replace Bly := Bly.mono hb; replace Blz := Blz.mono hb; replace hxn := hxn.mono hb; replace hxd := hxd.mono hb; replace hyn := hyn.mono hb; replace hyd := hyd.mono hb; replace hd := hd.mono hb; replace he := he.mono hb; replace hA := hA.mono hb; replace hB := hB.mono hb; replace hD := hD.mono hb; replace cx_0 := cellK cx_0 hb; replace cx_1 := cellK cx_1 hb; replace cx_2 := cellK cx_2 hb; clear hb)
          | (go_at_call 76; (with_reducible refine (p_reduced_calls gx _ _ _ _ _ _ hS hD hd0 hK3 ZS1.out zD').mono ?_); rintro e w11 ⟨_, rfl, hQ, hb⟩; obtain ⟨shQ, ahQ, nhQ, chQ, AhQ, NhQ, ChQ, rfl⟩ := hQ.shape; replace hs := bStep hs hb; replace Blx := Blx.mono hb; replace Bly := Bly.mono hb; replace Blz := Blz.mono hb; replace hxn := hxn.mono hb; replace hxd := hxd.mono hb; replace hyn := hyn.mono hb; replace hyd := hyd.mono hb; replace hd := hd.mono hb; replace he := he.mono hb; replace hA := hA.mono hb; replace hB := hB.mono hb; replace hD := hD.mono hb; replace hS := hS.mono hb; replace cx_0 := cellK cx_0 hb; replace cx_1 := cellK cx_1 hb; replace cx_2 := cellK cx_2 hb; clear hb; have cz_0 : w11.cell? ⟨w.heap.size + 1 + 1, 0, none⟩ = some (.bool false) := Blz.at 0 rfl; have cz_1 : w11.cell? ⟨w.heap.size + 1 + 1, 1, none⟩ = some (.slice none 0 0) := Blz.at 1 rfl; have cz_2 : w11.cell? ⟨w.heap.size + 1 + 1, 2, none⟩ = some (.slice none 0 0) := Blz.at 2 rfl; have fz := Blz.free))
      clear cx_0 cx_1 cx_2
      go_wp2
      refine bodyPost.abs ?_
      intro w12 hW
      have hsz := hs.size
      have lx := Blx.lt
      have ly := Bly.lt
      have lz := Blz.lt
      have hs1 : Below w.heap.size w w12 := by rw [hW]; exact (Below.setCell (Below.setCell (Below.setCell hs (by first | exact Nat.le_refl _ | omega | (have := hs.size; simp; done) | (have := hs.size; simp; omega)) _) (by first | exact Nat.le_refl _ | omega | (have := hs.size; simp; done) | (have := hs.size; simp; omega)) _) (by first | exact Nat.le_refl _ | omega | (have := hs.size; simp; done) | (have := hs.size; simp; omega)) _)
      have hk : KeepD w11 w12 := by rw [hW]; exact (KeepD.set (KeepD.set (KeepD.set (KeepD.refl _) Blz.ty (by decide) _ _) (TyB.store Blz.ty _ _) (by decide) _ _) (TyB.store (TyB.store Blz.ty _ _) _ _) (by decide) _ _)
      have Bl1x : Bx w12 (w.heap.size) 32 #[.bool gx, .slice ax nx cx, .slice Ax Nx Cx] := by rw [hW]; exact (Bx.far (Bx.far (Bx.far Blx (by first | omega | (simp; done) | (simp; omega)) _) (by first | omega | (simp; done) | (simp; omega)) _) (by first | omega | (simp; done) | (simp; omega)) _)
      have Bl1y : Bx w12 (w.heap.size + 1) 32 #[.bool gy, .slice ay ny cy, .slice Ay Ny Cy] := by rw [hW]; exact (Bx.far (Bx.far (Bx.far Bly (by first | omega | (simp; done) | (simp; omega)) _) (by first | omega | (simp; done) | (simp; omega)) _) (by first | omega | (simp; done) | (simp; omega)) _)
      have Bl1z : Bx w12 (w.heap.size + 1 + 1) 32 #[.bool shQ, .slice ahQ nhQ chQ, .slice AhQ NhQ ChQ] := by rw [hW]; exact (Bx.set (Bx.set (Bx.set Blz 0 _ rfl) 1 _ rfl) 2 _ rfl)
      replace hs := hs1
      clear hs1
      replace Blx := Bl1x
      clear Bl1x
      replace Bly := Bl1y
      clear Bl1y
      replace Blz := Bl1z
      clear Bl1z
      replace hxn := hxn.keep hk
      replace hxd := hxd.keep hk
      replace hyn := hyn.keep hk
      replace hyd := hyd.keep hk
      replace hd := hd.keep hk
      replace he := he.keep hk
      replace hA := hA.keep hk
      replace hB := hB.keep hk
      replace hD := hD.keep hk
      replace hS := hS.keep hk
      replace hQ := hQ.keep hk
      clear hW hk hsz lx ly lz
      exact ret_P rfl rfl rfl Blz (hQ.of_eq (E2.out HGG.out HLE.out).symm) hs
    · have hord := ordN_lt (show N1 < N2 by omega)
      have hle : N1 ≤ N2 := by omega
      have HLE := Lib.hid hle
      clear hle
      go_wp2
      refine Code.abs ?_
      intro w9 hW
      have hsz := hs.size
      have lx := Blx.lt
      have ly := Bly.lt
      have lz := Blz.lt
      have hs1 : Below w.heap.size w w9 := by rw [hW]; exact hs
      have hk : KeepD w8 w9 := by rw [hW]; exact (KeepD.refl _)
      have Bl1x : Bx w9 (w.heap.size) 32 #[.bool gx, .slice ax nx cx, .slice Ax Nx Cx] := by rw [hW]; exact Blx
      have Bl1y : Bx w9 (w.heap.size + 1) 32 #[.bool gy, .slice ay ny cy, .slice Ay Ny Cy] := by rw [hW]; exact Bly
      have Bl1z : Bx w9 (w.heap.size + 1 + 1) 32 #[.bool false, .slice none 0 0, .slice none 0 0] := by rw [hW]; exact Blz
      replace hs := hs1
      clear hs1
      replace Blx := Bl1x
      clear Bl1x
      replace Bly := Bl1y
      clear Bl1y
      replace Blz := Bl1z
      clear Bl1z
      replace hxn := hxn.keep hk
      replace hxd := hxd.keep hk
      replace hyn := hyn.keep hk
      replace hyd := hyd.keep hk
      replace hd := hd.keep hk
      replace he := he.keep hk
      replace hA := hA.keep hk
      replace hB := hB.keep hk
      replace hD := hD.keep hk
      clear hW hk hsz lx ly lz
      have hb := bDrew w9
      replace hs := bStep hs hb
      replace Blx := Blx.mono hb
      replace Bly := Bly.mono hb
      replace Blz := Blz.mono hb
      replace hxn := hxn.mono hb
      replace hxd := hxd.mono hb
      replace hyn := hyn.mono hb
      replace hyd := hyd.mono hb
      replace hd := hd.mono hb
      replace he := he.mono hb
      replace hA := hA.mono hb
      replace hB := hB.mono hb
      replace hD := hD.mono hb
      clear hb
      have cy_0 : (w9.drew).cell? ⟨w.heap.size + 1, 0, none⟩ = some (.bool gy) := Bly.at 0 rfl
      have cy_1 : (w9.drew).cell? ⟨w.heap.size + 1, 1, none⟩ = some (.slice ay ny cy) := Bly.at 1 rfl
      have cy_2 : (w9.drew).cell? ⟨w.heap.size + 1, 2, none⟩ = some (.slice Ay Ny Cy) := Bly.at 2 rfl
      go_region_held3 (fun w' => w'.cell? ⟨w.heap.size + 1, 0, none⟩ = some (.bool gy) ∧ w'.cell? ⟨w.heap.size + 1, 1, none⟩ = some (.slice ay ny cy) ∧ w'.cell? ⟨w.heap.size + 1, 2, none⟩ = some (.slice Ay Ny Cy))
        (first | exact ⟨cy_0, cy_1, cy_2⟩ | exact ⟨cellO (cellO (cellO (cy_0) (by first | omega | (have := hs.size; simp; done) | (have := hs.size; simp; omega))) (by first | omega | (have := hs.size; simp; done) | (have := hs.size; simp; omega))) (by first | omega | (have := hs.size; simp; done) | (have := hs.size; simp; omega)), cellO (cellO (cellO (cy_1) (by first | omega | (have := hs.size; simp; done) | (have := hs.size; simp; omega))) (by first | omega | (have := hs.size; simp; done) | (have := hs.size; simp; omega))) (by first | omega | (have := hs.size; simp; done) | (have := hs.size; simp; omega)), cellO (cellO (cellO (cy_2) (by first | omega | (have := hs.size; simp; done) | (have := hs.size; simp; omega))) (by first | omega | (have := hs.size; simp; done) | (have := hs.size; simp; omega))) (by first | omega | (have := hs.size; simp; done) | (have := hs.size; simp; omega))⟩ | go_keep)
        (first
          | (go_at_call 110; (with_reducible refine (ln_minus hB hA zB HLE.out hK2).mono ?_); rintro e w10 ⟨_, rfl, hS, hb⟩; obtain ⟨ahS, nhS, chS, rfl⟩ := hS.shape; replace hs := bStep hs hb; replace Blx := Blx.mono hb; replace Bly := Bly.mono hb; replace Blz := Blz.mono hb; replace hxn := hxn.mono hb; replace hxd := hxd.mono hb; replace hyn := hyn.mono hb; replace hyd := hyd.mono hb; replace hd := hd.mono hb; replace he := he.mono hb; replace hA := hA.mono hb; replace hB := hB.mono hb; replace hD := hD.mono hb; replace cy_0 := cellK cy_0 hb; replace cy_1 := cellK cy_1 hb; replace cy_2 := cellK cy_2 hb; clear hb)
          | (go_at_call 76; (with_reducible refine (p_reduced_calls gy _ _ _ _ _ _ hS hD hd0 hK3 ZS2.out zD').mono ?_); rintro e w11 ⟨_, rfl, hQ, hb⟩; obtain ⟨shQ, ahQ, nhQ, chQ, AhQ, NhQ, ChQ, rfl⟩ := hQ.shape; replace hs := bStep hs hb; replace Blx := Blx.mono hb; replace Bly := Bly.mono hb; replace Blz := Blz.mono hb; replace hxn := hxn.mono hb; replace hxd := hxd.mono hb; replace hyn := hyn.mono hb; replace hyd := hyd.mono hb; replace hd := hd.mono hb; replace he := he.mono hb; replace hA := hA.mono hb; replace hB := hB.mono hb; replace hD := hD.mono hb; replace hS := hS.mono hb; replace cy_0 := cellK cy_0 hb; replace cy_1 := cellK cy_1 hb; replace cy_2 := cellK cy_2 hb; clear hb; have cz_0 : w11.cell? ⟨w.heap.size + 1 + 1, 0, none⟩ = some (.bool false) := Blz.at 0 rfl; have cz_1 : w11.cell? ⟨w.heap.size + 1 + 1, 1, none⟩ = some (.slice none 0 0) := Blz.at 1 rfl; have cz_2 : w11.cell? ⟨w.heap.size + 1 + 1, 2, none⟩ = some (.slice none 0 0) := Blz.at 2 rfl; have fz := Blz.free))
      clear cy_0 cy_1 cy_2
      go_wp2
      refine bodyPost.abs ?_
      intro w12 hW
      have hsz := hs.size
      have lx := Blx.lt
      have ly := Bly.lt
      have lz := Blz.lt
      have hs1 : Below w.heap.size w w12 := by rw [hW]; exact (Below.setCell (Below.setCell (Below.setCell hs (by first | exact Nat.le_refl _ | omega | (have := hs.size; simp; done) | (have := hs.size; simp; omega)) _) (by first | exact Nat.le_refl _ | omega | (have := hs.size; simp; done) | (have := hs.size; simp; omega)) _) (by first | exact Nat.le_refl _ | omega | (have := hs.size; simp; done) | (have := hs.size; simp; omega)) _)
      have hk : KeepD w11 w12 := by rw [hW]; exact (KeepD.set (KeepD.set (KeepD.set (KeepD.refl _) Blz.ty (by decide) _ _) (TyB.store Blz.ty _ _) (by decide) _ _) (TyB.store (TyB.store Blz.ty _ _) _ _) (by decide) _ _)
      have Bl1x : Bx w12 (w.heap.size) 32 #[.bool gx, .slice ax nx cx, .slice Ax Nx Cx] := by rw [hW]; exact (Bx.far (Bx.far (Bx.far Blx (by first | omega | (simp; done) | (simp; omega)) _) (by first | omega | (simp; done) | (simp; omega)) _) (by first | omega | (simp; done) | (simp; omega)) _)
      have Bl1y : Bx w12 (w.heap.size + 1) 32 #[.bool gy, .slice ay ny cy, .slice Ay Ny Cy] := by rw [hW]; exact (Bx.far (Bx.far (Bx.far Bly (by first | omega | (simp; done) | (simp; omega)) _) (by first | omega | (simp; done) | (simp; omega)) _) (by first | omega | (simp; done) | (simp; omega)) _)
      have Bl1z : Bx w12 (w.heap.size + 1 + 1) 32 #[.bool shQ, .slice ahQ nhQ chQ, .slice AhQ NhQ ChQ] := by rw [hW]; exact (Bx.set (Bx.set (Bx.set Blz 0 _ rfl) 1 _ rfl) 2 _ rfl)
      replace hs := hs1
      clear hs1
      replace Blx := Bl1x
      clear Bl1x
      replace Bly := Bl1y
      clear Bl1y
      replace Blz := Bl1z
      clear Bl1z
      replace hxn := hxn.keep hk
      replace hxd := hxd.keep hk
      replace hyn := hyn.keep hk
      replace hyd := hyd.keep hk
      replace hd := hd.keep hk
      replace he := he.keep hk
      replace hA := hA.keep hk
      replace hB := hB.keep hk
      replace hD := hD.keep hk
      replace hS := hS.keep hk
      replace hQ := hQ.keep hk
      clear hW hk hsz lx ly lz
      exact ret_P rfl rfl rfl Blz (hQ.of_eq (E3.out HGG.out HLE.out).symm) hs

theorem SzP.neg {K : Nat} {x : Rat} (hx : SzP K x) : SzP K (-x) := by
  unfold SzP at *
  rw [Rat.neg_num, Rat.neg_den, Int.natAbs_neg]
  exact hx

set_option maxRecDepth 100000 in
set_option maxHeartbeats 4000000 in
theorem p_less_calls (vx vy : Value) (x y : Rat) (K : Nat) (w : World) (hx : PV w vx x) (hy : PV w vy y) (hK : K ≤ 268435456) (sx : SzP K x) (sy : SzP K y) : Calls Tryz.prog 112 #[vx, vy] w (RetP w (x - y)) := by
  obtain ⟨gx, ax, nx, cx, Ax, Nx, Cx, rfl⟩ := hx.shape
  have egx := hx.sign
  have EGx := Lib.hid egx
  obtain ⟨gy, ay, ny, cy, Ay, Ny, Cy, rfl⟩ := hy.shape
  have egy := hy.sign
  have EGy := Lib.hid egy
  rw [Rat.sub_eq_add_neg]
  have sy' := sy.neg
  clear egx
  clear egy
  have hs := Below.refl w.heap.size w
  go_enter Tryz.func112, Tryz.ntmps112
  go_wp2_with fail
  refine Code.abs ?_
  intro w1 hW
  have hsz := hs.size
  have hs1 : Below w.heap.size w w1 := by rw [hW]; exact (Below.alloc (Below.alloc (Below.alloc hs (by first | exact hs.size | (have := hs.size; simp; done) | (have := hs.size; simp; omega)) _) (by first | exact hs.size | (have := hs.size; simp; done) | (have := hs.size; simp; omega)) _) (by first | exact hs.size | (have := hs.size; simp; done) | (have := hs.size; simp; omega)) _)
  have hk : KeepD w w1 := by rw [hW]; exact ((((KeepD.refl _).alloc _).alloc _).alloc _)
  have Bl1x : Bx w1 (w.heap.size) 32 #[.bool gx, .slice ax nx cx, .slice Ax Nx Cx] := by rw [hW]; exact (((Bx.new' _ _ _ _ (by first | rfl | (simp; done))).alloc _).alloc _)
  have Bl1y : Bx w1 (w.heap.size + 1) 32 #[.bool gy, .slice ay ny cy, .slice Ay Ny Cy] := by rw [hW]; exact ((Bx.new' _ _ _ _ (by first | rfl | (simp; done))).alloc _)
  have Bl1z : Bx w1 (w.heap.size + 1 + 1) 32 #[.bool false, .slice none 0 0, .slice none 0 0] := by rw [hW]; exact (Bx.new' _ _ _ _ (by first | rfl | (simp; done)))
  replace hs := hs1
  clear hs1
  have Blx := Bl1x
  clear Bl1x
  have Bly := Bl1y
  clear Bl1y
  have Blz := Bl1z
  clear Bl1z
  replace hx := hx.keep hk
  replace hy := hy.keep hk
  clear hW hk hsz
  have hz_w1 : w.heap.size + 1 + 1 < w1.heap.size := Blz.lt
  have hb := bDrew w1
  replace hs := bStep hs hb
  replace Blx := Blx.mono hb
  replace Bly := Bly.mono hb
  replace Blz := Blz.mono hb
  replace hx := hx.mono hb
  replace hy := hy.mono hb
  clear hb
  have cx_0 : (w1.drew).cell? ⟨w.heap.size, 0, none⟩ = some (.bool gx) := Blx.at 0 rfl
  have cx_1 : (w1.drew).cell? ⟨w.heap.size, 1, none⟩ = some (.slice ax nx cx) := Blx.at 1 rfl
  have cx_2 : (w1.drew).cell? ⟨w.heap.size, 2, none⟩ = some (.slice Ax Nx Cx) := Blx.at 2 rfl
  have cy_0 : (w1.drew).cell? ⟨w.heap.size + 1, 0, none⟩ = some (.bool gy) := Bly.at 0 rfl
  have cy_1 : (w1.drew).cell? ⟨w.heap.size + 1, 1, none⟩ = some (.slice ay ny cy) := Bly.at 1 rfl
  have cy_2 : (w1.drew).cell? ⟨w.heap.size + 1, 2, none⟩ = some (.slice Ay Ny Cy) := Bly.at 2 rfl
  go_region_held3 (fun w' => w'.cell? ⟨w.heap.size, 0, none⟩ = some (.bool gx) ∧ w'.cell? ⟨w.heap.size, 1, none⟩ = some (.slice ax nx cx) ∧ w'.cell? ⟨w.heap.size, 2, none⟩ = some (.slice Ax Nx Cx) ∧ w'.cell? ⟨w.heap.size + 1, 0, none⟩ = some (.bool gy) ∧ w'.cell? ⟨w.heap.size + 1, 1, none⟩ = some (.slice ay ny cy) ∧ w'.cell? ⟨w.heap.size + 1, 2, none⟩ = some (.slice Ay Ny Cy))
    (first | exact ⟨cx_0, cx_1, cx_2, cy_0, cy_1, cy_2⟩ | exact ⟨cellO (cellO (cellO (cx_0) (by first | omega | (have := hs.size; simp; done) | (have := hs.size; simp; omega))) (by first | omega | (have := hs.size; simp; done) | (have := hs.size; simp; omega))) (by first | omega | (have := hs.size; simp; done) | (have := hs.size; simp; omega)), cellO (cellO (cellO (cx_1) (by first | omega | (have := hs.size; simp; done) | (have := hs.size; simp; omega))) (by first | omega | (have := hs.size; simp; done) | (have := hs.size; simp; omega))) (by first | omega | (have := hs.size; simp; done) | (have := hs.size; simp; omega)), cellO (cellO (cellO (cx_2) (by first | omega | (have := hs.size; simp; done) | (have := hs.size; simp; omega))) (by first | omega | (have := hs.size; simp; done) | (have := hs.size; simp; omega))) (by first | omega | (have := hs.size; simp; done) | (have := hs.size; simp; omega)), cellO (cellO (cellO (cy_0) (by first | omega | (have := hs.size; simp; done) | (have := hs.size; simp; omega))) (by first | omega | (have := hs.size; simp; done) | (have := hs.size; simp; omega))) (by first | omega | (have := hs.size; simp; done) | (have := hs.size; simp; omega)), cellO (cellO (cellO (cy_1) (by first | omega | (have := hs.size; simp; done) | (have := hs.size; simp; omega))) (by first | omega | (have := hs.size; simp; done) | (have := hs.size; simp; omega))) (by first | omega | (have := hs.size; simp; done) | (have := hs.size; simp; omega)), cellO (cellO (cellO (cy_2) (by first | omega | (have := hs.size; simp; done) | (have := hs.size; simp; omega))) (by first | omega | (have := hs.size; simp; done) | (have := hs.size; simp; omega))) (by first | omega | (have := hs.size; simp; done) | (have := hs.size; simp; omega))⟩ | go_keep)
    (first
      | (go_at_call 106; (with_reducible refine (p_Neg_calls _ y _ hy).mono ?_); rintro e w2 ⟨_, rfl, hn, hb⟩; obtain ⟨shn, ahn, nhn, chn, Ahn, Nhn, Chn, rfl⟩ := hn.shape; replace hs := bStep hs hb; replace Blx := Blx.mono hb; replace Bly := Bly.mono hb; replace Blz := Blz.mono hb; replace hx := hx.mono hb; replace hy := hy.mono hb; replace cx_0 := cellK cx_0 hb; replace cx_1 := cellK cx_1 hb; replace cx_2 := cellK cx_2 hb; replace cy_0 := cellK cy_0 hb; replace cy_1 := cellK cy_1 hb; replace cy_2 := cellK cy_2 hb; clear hb)
      | (go_at_call 54; (with_reducible refine (p_Add_calls _ _ x (-y) K _ hx hn hK sx sy').mono ?_); rintro e w3 ⟨_, rfl, hQ, hb⟩; obtain ⟨shQ, ahQ, nhQ, chQ, AhQ, NhQ, ChQ, rfl⟩ := hQ.shape; replace hs := bStep hs hb; replace Blx := Blx.mono hb; replace Bly := Bly.mono hb; replace Blz := Blz.mono hb; replace hx := hx.mono hb; replace hy := hy.mono hb; replace hn := hn.mono hb; replace cx_0 := cellK cx_0 hb; replace cx_1 := cellK cx_1 hb; replace cx_2 := cellK cx_2 hb; replace cy_0 := cellK cy_0 hb; replace cy_1 := cellK cy_1 hb; replace cy_2 := cellK cy_2 hb; clear hb; have cz_0 : w3.cell? ⟨w.heap.size + 1 + 1, 0, none⟩ = some (.bool false) := Blz.at 0 rfl; have cz_1 : w3.cell? ⟨w.heap.size + 1 + 1, 1, none⟩ = some (.slice none 0 0) := Blz.at 1 rfl; have cz_2 : w3.cell? ⟨w.heap.size + 1 + 1, 2, none⟩ = some (.slice none 0 0) := Blz.at 2 rfl; have fz := Blz.free))
  clear cx_0 cx_1 cx_2 cy_0 cy_1 cy_2
  go_wp2
  refine bodyPost.abs ?_
  intro w4 hW
  have hsz := hs.size
  have lx := Blx.lt
  have ly := Bly.lt
  have lz := Blz.lt
  have hs1 : Below w.heap.size w w4 := by rw [hW]; exact (Below.setCell (Below.setCell (Below.setCell hs (by first | exact Nat.le_refl _ | omega | (have := hs.size; simp; done) | (have := hs.size; simp; omega)) _) (by first | exact Nat.le_refl _ | omega | (have := hs.size; simp; done) | (have := hs.size; simp; omega)) _) (by first | exact Nat.le_refl _ | omega | (have := hs.size; simp; done) | (have := hs.size; simp; omega)) _)
  have hk : KeepD w3 w4 := by rw [hW]; exact (KeepD.set (KeepD.set (KeepD.set (KeepD.refl _) Blz.ty (by decide) _ _) (TyB.store Blz.ty _ _) (by decide) _ _) (TyB.store (TyB.store Blz.ty _ _) _ _) (by decide) _ _)
  have Bl1x : Bx w4 (w.heap.size) 32 #[.bool gx, .slice ax nx cx, .slice Ax Nx Cx] := by rw [hW]; exact (Bx.far (Bx.far (Bx.far Blx (by first | omega | (simp; done) | (simp; omega)) _) (by first | omega | (simp; done) | (simp; omega)) _) (by first | omega | (simp; done) | (simp; omega)) _)
  have Bl1y : Bx w4 (w.heap.size + 1) 32 #[.bool gy, .slice ay ny cy, .slice Ay Ny Cy] := by rw [hW]; exact (Bx.far (Bx.far (Bx.far Bly (by first | omega | (simp; done) | (simp; omega)) _) (by first | omega | (simp; done) | (simp; omega)) _) (by first | omega | (simp; done) | (simp; omega)) _)
  have Bl1z : Bx w4 (w.heap.size + 1 + 1) 32 #[.bool shQ, .slice ahQ nhQ chQ, .slice AhQ NhQ ChQ] := by rw [hW]; exact (Bx.set (Bx.set (Bx.set Blz 0 _ rfl) 1 _ rfl) 2 _ rfl)
  replace hs := hs1
  clear hs1
  replace Blx := Bl1x
  clear Bl1x
  replace Bly := Bl1y
  clear Bl1y
  replace Blz := Bl1z
  clear Bl1z
  replace hx := hx.keep hk
  replace hy := hy.keep hk
  replace hn := hn.keep hk
  replace hQ := hQ.keep hk
  clear hW hk hsz lx ly lz
  exact ret_P rfl rfl rfl Blz hQ hs
end Go.Proofs.YtkfekkhhfpkfaaaGreat
