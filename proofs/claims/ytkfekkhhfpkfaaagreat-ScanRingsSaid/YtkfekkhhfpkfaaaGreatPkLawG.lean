/-
  The small functions of law 07: of, is, short.
-/
import Derived.Test.YtkfekkhhfpkfaaaGreatPkScanG
import Derived.Test.YtkfekkhhfpkfaaaGreatPkOpsG
set_option linter.unusedSimpArgs false
set_option linter.unusedVariables false
set_option maxRecDepth 100000
set_option maxHeartbeats 4000000
namespace Go.Proofs.YtkfekkhhfpkfaaaGreat
open Go.RowKit Dg
attribute [local go_sem ↓] Go.wp_at_zero Go.wp_at_succ
theorem l7_of (n d : Int) (w : World) (h0 : -9223372036854775808 ≤ n) (h1 : n ≤ 9223372036854775807) (d0 : -9223372036854775808 ≤ d) (d1 : d ≤ 9223372036854775807) : Calls Tryz.prog 26 #[.agg #[.int .i64 n, .int .i64 d]] w (RetP w (fracQ n d)) := by
 have hs := Below.refl w.heap.size w
 by_cases hd : d ≤ 0
 ·rw [show fracQ n d = (n : Rat) from if_pos hd]
  go_enter Tryz.func26, Tryz.ntmps26
  go_wp2_with fail
  refine Calls.abs ?_
  intro w1 hW
  have hsz := hs.size
  have hbw : Below w.heap.size w w1 := by rw [hW]; exact (Below.alloc (Below.alloc (Below.refl w.heap.size w) (by first | exact hs.size | (have := hs.size; simp; done) | (have := hs.size; simp; omega)) _) (by first | exact hs.size | (have := hs.size; simp; done) | (have := hs.size; simp; omega)) _)
  have hs1 : Below w.heap.size w w1 := hs.trans hbw
  have hk : KeepD w w1 := by rw [hW]; exact (((KeepD.refl _).alloc _).alloc _)
  have Bl1x : Bx w1 (w.heap.size) 67 #[.int .i64 n, .int .i64 d] := by rw [hW]; exact ((Bx.new' _ _ _ _ (by first | rfl | (simp; done))).alloc _)
  have Bl1z : Bx w1 (w.heap.size + 1) 32 #[.bool false, .slice none 0 0, .slice none 0 0] := by rw [hW]; exact (Bx.new' _ _ _ _ (by first | rfl | (simp; done)))
  replace hs := hs1
  clear hs1
  have Blx := Bl1x
  clear Bl1x
  have Blz := Bl1z
  clear Bl1z
  clear hW hk hsz hbw
  have hz_w1 := Blz.lt
  refine (p_Int_calls n _ h0 h1).mono ?_
  rintro e w2 ⟨_, rfl, hQ, hb⟩
  obtain ⟨shQ, ahQ, nhQ, chQ, AhQ, NhQ, ChQ, rfl⟩ := hQ.shape
  replace hs := bStep hs hb
  replace Blx := Blx.mono hb
  replace Blz := Blz.mono hb
  clear hb
  have B6 := Blz.a0
  have B7 := Blz.a1
  have B8 := Blz.a2
  have fz := Blz.free
  have Lz := Blz.lt
  go_wp2
  refine bodyPost.abs ?_
  intro w3 hW
  have hsz := hs.size
  have lx := Blx.lt
  have lz := Blz.lt
  have hbw : Below w.heap.size w2 w3 := by rw [hW]; exact (Below.setCell (Below.setCell (Below.setCell (Below.refl w.heap.size w2) (by first | exact Nat.le_refl _ | omega | (have := hs.size; simp; done) | (have := hs.size; simp; omega)) _) (by first | exact Nat.le_refl _ | omega | (have := hs.size; simp; done) | (have := hs.size; simp; omega)) _) (by first | exact Nat.le_refl _ | omega | (have := hs.size; simp; done) | (have := hs.size; simp; omega)) _)
  have hs1 : Below w.heap.size w w3 := hs.trans hbw
  have hk : KeepD w2 w3 := by rw [hW]; exact (KeepD.set (KeepD.set (KeepD.set (KeepD.refl _) Blz.ty (by decide) _ _) (TyB.store Blz.ty _ _) (by decide) _ _) (TyB.store (TyB.store Blz.ty _ _) _ _) (by decide) _ _)
  have Bl1x : Bx w3 (w.heap.size) 67 #[.int .i64 n, .int .i64 d] := by rw [hW]; exact (Bx.far (Bx.far (Bx.far Blx (by first | omega | (simp; done) | (simp; omega)) _) (by first | omega | (simp; done) | (simp; omega)) _) (by first | omega | (simp; done) | (simp; omega)) _)
  have Bl1z : Bx w3 (w.heap.size + 1) 32 #[.bool shQ, .slice ahQ nhQ chQ, .slice AhQ NhQ ChQ] := by rw [hW]; exact (Bx.set (Bx.set (Bx.set Blz 0 _ rfl) 1 _ rfl) 2 _ rfl)
  replace hs := hs1
  clear hs1
  replace Blx := Bl1x
  clear Bl1x
  replace Blz := Bl1z
  clear Bl1z
  replace hQ := hQ.keep hk
  clear hW hk hsz hbw lx lz
  exact ret_P rfl rfl rfl Blz hQ hs
 ·rw [show fracQ n d = (n : Rat) / (d : Rat) from if_neg hd]
  go_enter Tryz.func26, Tryz.ntmps26
  go_wp2_with fail
  refine Calls.abs ?_
  intro w1 hW
  have hsz := hs.size
  have hbw : Below w.heap.size w w1 := by rw [hW]; exact (Below.alloc (Below.alloc (Below.refl w.heap.size w) (by first | exact hs.size | (have := hs.size; simp; done) | (have := hs.size; simp; omega)) _) (by first | exact hs.size | (have := hs.size; simp; done) | (have := hs.size; simp; omega)) _)
  have hs1 : Below w.heap.size w w1 := hs.trans hbw
  have hk : KeepD w w1 := by rw [hW]; exact (((KeepD.refl _).alloc _).alloc _)
  have Bl1x : Bx w1 (w.heap.size) 67 #[.int .i64 n, .int .i64 d] := by rw [hW]; exact ((Bx.new' _ _ _ _ (by first | rfl | (simp; done))).alloc _)
  have Bl1z : Bx w1 (w.heap.size + 1) 32 #[.bool false, .slice none 0 0, .slice none 0 0] := by rw [hW]; exact (Bx.new' _ _ _ _ (by first | rfl | (simp; done)))
  replace hs := hs1
  clear hs1
  have Blx := Bl1x
  clear Bl1x
  have Blz := Bl1z
  clear Bl1z
  clear hW hk hsz hbw
  have hz_w1 := Blz.lt
  refine (p_New_calls n d _ h0 h1 d0 d1 (by omega)).mono ?_
  rintro e w2 ⟨_, rfl, hQ, hb⟩
  obtain ⟨shQ, ahQ, nhQ, chQ, AhQ, NhQ, ChQ, rfl⟩ := hQ.shape
  replace hs := bStep hs hb
  replace Blx := Blx.mono hb
  replace Blz := Blz.mono hb
  clear hb
  have B6 := Blz.a0
  have B7 := Blz.a1
  have B8 := Blz.a2
  have fz := Blz.free
  have Lz := Blz.lt
  go_wp2
  refine bodyPost.abs ?_
  intro w3 hW
  have hsz := hs.size
  have lx := Blx.lt
  have lz := Blz.lt
  have hbw : Below w.heap.size w2 w3 := by rw [hW]; exact (Below.alloc (Below.setCell (Below.setCell (Below.setCell (Below.refl w.heap.size w2) (by first | exact Nat.le_refl _ | omega | (have := hs.size; simp; done) | (have := hs.size; simp; omega)) _) (by first | exact Nat.le_refl _ | omega | (have := hs.size; simp; done) | (have := hs.size; simp; omega)) _) (by first | exact Nat.le_refl _ | omega | (have := hs.size; simp; done) | (have := hs.size; simp; omega)) _) (by first | exact hs.size | (have := hs.size; simp; done) | (have := hs.size; simp; omega)) _)
  have hs1 : Below w.heap.size w w3 := hs.trans hbw
  have hk : KeepD w2 w3 := by rw [hW]; exact ((KeepD.set (KeepD.set (KeepD.set (KeepD.refl _) Blz.ty (by decide) _ _) (TyB.store Blz.ty _ _) (by decide) _ _) (TyB.store (TyB.store Blz.ty _ _) _ _) (by decide) _ _).alloc _)
  have Bl1x : Bx w3 (w.heap.size) 67 #[.int .i64 n, .int .i64 d] := by rw [hW]; exact ((Bx.far (Bx.far (Bx.far Blx (by first | omega | (simp; done) | (simp; omega)) _) (by first | omega | (simp; done) | (simp; omega)) _) (by first | omega | (simp; done) | (simp; omega)) _).alloc _)
  have Bl1z : Bx w3 (w.heap.size + 1) 32 #[.bool shQ, .slice ahQ nhQ chQ, .slice AhQ NhQ ChQ] := by rw [hW]; exact ((Bx.set (Bx.set (Bx.set Blz 0 _ rfl) 1 _ rfl) 2 _ rfl).alloc _)
  have Bl1q : Bx w3 (w2.heap.size) 32 #[.bool shQ, .slice ahQ nhQ chQ, .slice AhQ NhQ ChQ] := by rw [hW]; exact (Bx.new' _ _ _ _ (by first | rfl | (simp; done)))
  replace hs := hs1
  clear hs1
  replace Blx := Bl1x
  clear Bl1x
  replace Blz := Bl1z
  clear Bl1z
  have Blq := Bl1q
  clear Bl1q
  replace hQ := hQ.keep hk
  clear hW hk hsz hbw lx lz
  have hz_w3 := Blq.lt
  exact ret_P rfl rfl rfl Blz hQ hs
theorem pTextS {w : World} {v : Value} {x : Rat} {s : ByteArray} (hs : strV (textQ x) = .string s) (hx : PV w v x) (fx : Fit x) : Calls Tryz.prog 50 #[v] w (RetV w (.string s)) := hs ▸ pText hx fx
theorem rTextS {w : World} {v : Value} {x : Rat} {s : ByteArray} (hs : strV (textQ x) = .string s) (hx : RV w v x) (fx : Fit x) : Calls Tryz.prog 66 #[v] w (RetI w (.string s)) := hs ▸ rText hx fx
theorem l7_is (vx vy : Value) (x : Rat) (w : World) (hx : PV w vx x) (hy : RV w vy x) (fx : Fit x) : Calls Tryz.prog 13 #[vx, vy] w (RetV w (.bool true)) := by
 obtain ⟨gx, ax, nx, cx, Ax, Nx, Cx, rfl⟩ := hx.shape
 obtain ⟨gy, ay, ny, cy, Ay, Ny, Cy, rfl⟩ := hy.shape
 obtain ⟨s, hss⟩ : ∃ s, strV (textQ x) = .string s := ⟨_, rfl⟩
 have hs := Below.refl w.heap.size w
 go_enter Tryz.func13, Tryz.ntmps13
 go_wp2_with fail
 refine Code.abs ?_
 intro w1 hW
 have hsz := hs.size
 have hbw : Below w.heap.size w w1 := by rw [hW]; exact (Below.alloc (Below.alloc (Below.refl w.heap.size w) (by first | exact hs.size | (have := hs.size; simp; done) | (have := hs.size; simp; omega)) _) (by first | exact hs.size | (have := hs.size; simp; done) | (have := hs.size; simp; omega)) _)
 have hs1 : Below w.heap.size w w1 := hs.trans hbw
 have hk : KeepD w w1 := by rw [hW]; exact (((KeepD.refl _).alloc _).alloc _)
 have Bl1x : Bx w1 (w.heap.size) 32 #[.bool gx, .slice ax nx cx, .slice Ax Nx Cx] := by rw [hW]; exact ((Bx.new' _ _ _ _ (by first | rfl | (simp; done))).alloc _)
 have Bl1y : Bx w1 (w.heap.size + 1) 38 #[.bool gy, .slice ay ny cy, .slice Ay Ny Cy] := by rw [hW]; exact (Bx.new' _ _ _ _ (by first | rfl | (simp; done)))
 replace hs := hs1
 clear hs1
 have Blx := Bl1x
 clear Bl1x
 have Bly := Bl1y
 clear Bl1y
 replace hx := hx.keep hk
 replace hy := hy.keep hk
 clear hW hk hsz hbw
 have hz_w1 := Bly.lt
 have hb := bDrew w1
 replace hs := bStep hs hb
 replace Blx := Blx.mono hb
 replace Bly := Bly.mono hb
 replace hx := hx.mono hb
 replace hy := hy.mono hb
 clear hb
 have B0 := Blx.a0
 have B1 := Blx.a1
 have B2 := Blx.a2
 have B3 := Bly.a0
 have B4 := Bly.a1
 have B5 := Bly.a2
 go_region_held3 (fun w' => w'.cell? ⟨w.heap.size, 0, none⟩ = some (.bool gx) ∧ w'.cell? ⟨w.heap.size, 1, none⟩ = some (.slice ax nx cx) ∧ w'.cell? ⟨w.heap.size, 2, none⟩ = some (.slice Ax Nx Cx) ∧ w'.cell? ⟨w.heap.size + 1, 0, none⟩ = some (.bool gy) ∧ w'.cell? ⟨w.heap.size + 1, 1, none⟩ = some (.slice ay ny cy) ∧ w'.cell? ⟨w.heap.size + 1, 2, none⟩ = some (.slice Ay Ny Cy))
  (first | exact ⟨B0, B1, B2, B3, B4, B5⟩ | exact ⟨cellA B0 _, cellA B1 _, cellA B2 _, cellA B3 _, cellA B4 _, cellA B5 _⟩ | go_keep)
  (first
   | (go_at_call 50; (with_reducible refine (pTextS hss hx fx).mono ?_); rintro e w2 ⟨rfl, hb⟩; replace hs := bStep hs hb; replace Blx := Blx.mono hb; replace Bly := Bly.mono hb; replace hx := hx.mono hb; replace hy := hy.mono hb; replace B0 := cellK B0 hb; replace B1 := cellK B1 hb; replace B2 := cellK B2 hb; replace B3 := cellK B3 hb; replace B4 := cellK B4 hb; replace B5 := cellK B5 hb; clear hb)
   | (go_at_call 66; (with_reducible refine (rTextS hss hy fx).mono ?_); rintro e w3 ⟨rfl, hb⟩; replace hs := bStep hs hb; replace Blx := Blx.mono hb; replace Bly := Bly.mono hb; replace hx := hx.mono hb; replace hy := hy.mono hb; replace B0 := cellK B0 hb; replace B1 := cellK B1 hb; replace B2 := cellK B2 hb; replace B3 := cellK B3 hb; replace B4 := cellK B4 hb; replace B5 := cellK B5 hb; clear hb))
 clear B0 B1 B2 B3 B4 B5
 go_wp2
 go_ret
 exact ⟨by simp, hs⟩
end Go.Proofs.YtkfekkhhfpkfaaaGreat
namespace Go.Proofs.YtkfekkhhfpkfaaaGreat
open Go.RowKit Dg
attribute [local go_sem ↓] Go.wp_at_zero Go.wp_at_succ
def FC (_ : World) (cs : List Value) (x : Int × Int) : Prop := cs = [.int .i64 x.1, .int .i64 x.2]
theorem FC.kept : Kept FC := fun _ _ _ _ h _ => h
theorem allF_take {α : Type} (f : α → Bool) (l : List α) (k : Nat) (x : α) (h : l[k]? = some x) (ht : (l.take k).all f = true) : (l.take (k + 1)).all f = f x := by
 have hk : k < l.length := (List.getElem?_eq_some_iff.1 h).1
 have hx : l[k] = x := (List.getElem?_eq_some_iff.1 h).2
 rw [List.take_succ_eq_append_getElem hk, List.all_append, ht, hx]
 simp
theorem allF_false {α : Type} (f : α → Bool) (l : List α) (k : Nat) (h : (l.take k).all f = false) : l.all f = false := by
 rw [List.all_eq_false] at *
 obtain ⟨x, hx, h⟩ := h
 exact ⟨x, List.mem_of_mem_take hx, h⟩
end Go.Proofs.YtkfekkhhfpkfaaaGreat
namespace Go.Proofs.YtkfekkhhfpkfaaaGreat
open Go.RowKit Dg
def DOk (x : Int × Int) : Prop := -9223372036854775808 ≤ x.1 ∧ x.1 ≤ 9223372036854775807 ∧ -9223372036854775808 ≤ x.2 ∧ x.2 ≤ 9223372036854775807
theorem map_take {α β : Type} (f : α → β) (l : List α) (k : Nat) (x : α) (h : l[k]? = some x) : (l.take (k + 1)).map f = (l.take k).map f ++ [f x] := by
  have hk : k < l.length := (List.getElem?_eq_some_iff.1 h).1
  have hx : l[k] = x := (List.getElem?_eq_some_iff.1 h).2
  rw [List.take_succ_eq_append_getElem hk, hx, List.map_append]
  rfl
theorem C2.openP {w : World} {cs : List Value} {x : Rat × Rat} (h : C2 PC w cs x) : ∃ g1 a1 n1 c1 A1 N1 D1 g2 a2 n2 c2 A2 N2 D2,
    cs = [.bool g1, .slice a1 n1 c1, .slice A1 N1 D1, .bool g2, .slice a2 n2 c2, .slice A2 N2 D2] ∧ PV w (.agg #[.bool g1, .slice a1 n1 c1, .slice A1 N1 D1]) x.1 ∧ PV w (.agg #[.bool g2, .slice a2 n2 c2, .slice A2 N2 D2]) x.2 := by
  obtain ⟨_, _, rfl, ⟨p1, p2, p3, rfl, h1⟩, ⟨q1, q2, q3, rfl, h2⟩⟩ := h
  obtain ⟨g1, a1, n1, c1, A1, N1, D1, e⟩ := h1.shape
  obtain ⟨rfl, rfl, rfl⟩ := agg3 e
  obtain ⟨g2, a2, n2, c2, A2, N2, D2, e⟩ := h2.shape
  obtain ⟨rfl, rfl, rfl⟩ := agg3 e
  exact ⟨_, _, _, _, _, _, _, _, _, _, _, _, _, _, rfl, h1, h2⟩
end Go.Proofs.YtkfekkhhfpkfaaaGreat
