/-
  The small functions of law 07: of, is, short.
-/
import Derived.Test.YtkfekkhhfpkfaaaPkScan
import Derived.Test.YtkfekkhhfpkfaaaPkOps
set_option linter.unusedSimpArgs false
set_option linter.unusedVariables false
namespace Go.Proofs.Ytkfekkhhfpkfaaa
open Go.RowKit Dg
attribute [local go_sem ↓] Go.wp_at_zero Go.wp_at_succ

set_option maxRecDepth 100000 in
set_option maxHeartbeats 4000000 in
theorem l7_of (n d : Int) (w : World) (h0 : -9223372036854775808 ≤ n) (h1 : n ≤ 9223372036854775807) (d0 : -9223372036854775808 ≤ d) (d1 : d ≤ 9223372036854775807) : Calls Try.prog 19 #[.agg #[.int .i64 n, .int .i64 d]] w (RetP w (fracQ n d)) := by
  have hs := Below.refl w.heap.size w
  by_cases hd : d ≤ 0
  · rw [show fracQ n d = (n : Rat) from if_pos hd]
    go_enter Try.func19, Try.ntmps19
    go_wp2_with fail
    refine Calls.abs ?_
    intro w1 hW
    have hsz := hs.size
    have hbw : Below w.heap.size w w1 := by rw [hW]; exact (Below.alloc (Below.alloc (Below.refl w.heap.size w) (by first | exact hs.size | (have := hs.size; simp; done) | (have := hs.size; simp; omega)) _) (by first | exact hs.size | (have := hs.size; simp; done) | (have := hs.size; simp; omega)) _)
    have hs1 : Below w.heap.size w w1 := hs.trans hbw
    have hk : KeepD w w1 := by rw [hW]; exact (((KeepD.refl _).alloc _).alloc _)
    have Bl1x : Bx w1 (w.heap.size) 53 #[.int .i64 n, .int .i64 d] := by rw [hW]; exact ((Bx.new' _ _ _ _ (by first | rfl | (simp; done))).alloc _)
    have Bl1z : Bx w1 (w.heap.size + 1) 32 #[.bool false, .slice none 0 0, .slice none 0 0] := by rw [hW]; exact (Bx.new' _ _ _ _ (by first | rfl | (simp; done)))
    replace hs := hs1
    clear hs1
    have Blx := Bl1x
    clear Bl1x
    have Blz := Bl1z
    clear Bl1z
    clear hW hk hsz hbw
    have hz_w1 : w.heap.size + 1 < w1.heap.size := Blz.lt
    refine (p_Int_calls n _ h0 h1).mono ?_
    rintro e w2 ⟨_, rfl, hQ, hb⟩
    obtain ⟨shQ, ahQ, nhQ, chQ, AhQ, NhQ, ChQ, rfl⟩ := hQ.shape
    replace hs := bStep hs hb
    replace Blx := Blx.mono hb
    replace Blz := Blz.mono hb
    clear hb
    have cz_0 : w2.cell? ⟨w.heap.size + 1, 0, none⟩ = some (.bool false) := Blz.at 0 rfl
    have cz_1 : w2.cell? ⟨w.heap.size + 1, 1, none⟩ = some (.slice none 0 0) := Blz.at 1 rfl
    have cz_2 : w2.cell? ⟨w.heap.size + 1, 2, none⟩ = some (.slice none 0 0) := Blz.at 2 rfl
    have fz := Blz.free
    have Lz : w.heap.size + 1 < w2.heap.size := Blz.lt
    go_wp2
    refine bodyPost.abs ?_
    intro w3 hW
    have hsz := hs.size
    have lx := Blx.lt
    have lz := Blz.lt
    have hbw : Below w.heap.size w2 w3 := by rw [hW]; exact (Below.setCell (Below.setCell (Below.setCell (Below.refl w.heap.size w2) (by first | exact Nat.le_refl _ | omega | (have := hs.size; simp; done) | (have := hs.size; simp; omega)) _) (by first | exact Nat.le_refl _ | omega | (have := hs.size; simp; done) | (have := hs.size; simp; omega)) _) (by first | exact Nat.le_refl _ | omega | (have := hs.size; simp; done) | (have := hs.size; simp; omega)) _)
    have hs1 : Below w.heap.size w w3 := hs.trans hbw
    have hk : KeepD w2 w3 := by rw [hW]; exact (KeepD.set (KeepD.set (KeepD.set (KeepD.refl _) Blz.ty (by decide) _ _) (TyB.store Blz.ty _ _) (by decide) _ _) (TyB.store (TyB.store Blz.ty _ _) _ _) (by decide) _ _)
    have Bl1x : Bx w3 (w.heap.size) 53 #[.int .i64 n, .int .i64 d] := by rw [hW]; exact (Bx.far (Bx.far (Bx.far Blx (by first | omega | (simp; done) | (simp; omega)) _) (by first | omega | (simp; done) | (simp; omega)) _) (by first | omega | (simp; done) | (simp; omega)) _)
    have Bl1z : Bx w3 (w.heap.size + 1) 32 #[.bool shQ, .slice ahQ nhQ chQ, .slice AhQ NhQ ChQ] := by rw [hW]; exact (Bx.set (Bx.set (Bx.set Blz 0 _ rfl) 1 _ rfl) 2 _ rfl)
    replace hs := hs1
    clear hs1
    replace Blx := Bl1x
    clear Bl1x
    replace Blz := Bl1z
    clear Bl1z
    replace hQ := hQ.keep hk
    clear hW hk hsz hbw lx lz
    exact ret_P rfl rfl rfl Blz hQ hs
  · rw [show fracQ n d = (n : Rat) / (d : Rat) from if_neg hd]
    go_enter Try.func19, Try.ntmps19
    go_wp2_with fail
    refine Calls.abs ?_
    intro w1 hW
    have hsz := hs.size
    have hbw : Below w.heap.size w w1 := by rw [hW]; exact (Below.alloc (Below.alloc (Below.refl w.heap.size w) (by first | exact hs.size | (have := hs.size; simp; done) | (have := hs.size; simp; omega)) _) (by first | exact hs.size | (have := hs.size; simp; done) | (have := hs.size; simp; omega)) _)
    have hs1 : Below w.heap.size w w1 := hs.trans hbw
    have hk : KeepD w w1 := by rw [hW]; exact (((KeepD.refl _).alloc _).alloc _)
    have Bl1x : Bx w1 (w.heap.size) 53 #[.int .i64 n, .int .i64 d] := by rw [hW]; exact ((Bx.new' _ _ _ _ (by first | rfl | (simp; done))).alloc _)
    have Bl1z : Bx w1 (w.heap.size + 1) 32 #[.bool false, .slice none 0 0, .slice none 0 0] := by rw [hW]; exact (Bx.new' _ _ _ _ (by first | rfl | (simp; done)))
    replace hs := hs1
    clear hs1
    have Blx := Bl1x
    clear Bl1x
    have Blz := Bl1z
    clear Bl1z
    clear hW hk hsz hbw
    have hz_w1 : w.heap.size + 1 < w1.heap.size := Blz.lt
    refine (p_New_calls n d _ h0 h1 d0 d1 (by omega)).mono ?_
    rintro e w2 ⟨_, rfl, hQ, hb⟩
    obtain ⟨shQ, ahQ, nhQ, chQ, AhQ, NhQ, ChQ, rfl⟩ := hQ.shape
    replace hs := bStep hs hb
    replace Blx := Blx.mono hb
    replace Blz := Blz.mono hb
    clear hb
    have cz_0 : w2.cell? ⟨w.heap.size + 1, 0, none⟩ = some (.bool false) := Blz.at 0 rfl
    have cz_1 : w2.cell? ⟨w.heap.size + 1, 1, none⟩ = some (.slice none 0 0) := Blz.at 1 rfl
    have cz_2 : w2.cell? ⟨w.heap.size + 1, 2, none⟩ = some (.slice none 0 0) := Blz.at 2 rfl
    have fz := Blz.free
    have Lz : w.heap.size + 1 < w2.heap.size := Blz.lt
    go_wp2
    refine bodyPost.abs ?_
    intro w3 hW
    have hsz := hs.size
    have lx := Blx.lt
    have lz := Blz.lt
    have hbw : Below w.heap.size w2 w3 := by rw [hW]; exact (Below.alloc (Below.setCell (Below.setCell (Below.setCell (Below.refl w.heap.size w2) (by first | exact Nat.le_refl _ | omega | (have := hs.size; simp; done) | (have := hs.size; simp; omega)) _) (by first | exact Nat.le_refl _ | omega | (have := hs.size; simp; done) | (have := hs.size; simp; omega)) _) (by first | exact Nat.le_refl _ | omega | (have := hs.size; simp; done) | (have := hs.size; simp; omega)) _) (by first | exact hs.size | (have := hs.size; simp; done) | (have := hs.size; simp; omega)) _)
    have hs1 : Below w.heap.size w w3 := hs.trans hbw
    have hk : KeepD w2 w3 := by rw [hW]; exact ((KeepD.set (KeepD.set (KeepD.set (KeepD.refl _) Blz.ty (by decide) _ _) (TyB.store Blz.ty _ _) (by decide) _ _) (TyB.store (TyB.store Blz.ty _ _) _ _) (by decide) _ _).alloc _)
    have Bl1x : Bx w3 (w.heap.size) 53 #[.int .i64 n, .int .i64 d] := by rw [hW]; exact ((Bx.far (Bx.far (Bx.far Blx (by first | omega | (simp; done) | (simp; omega)) _) (by first | omega | (simp; done) | (simp; omega)) _) (by first | omega | (simp; done) | (simp; omega)) _).alloc _)
    have Bl1z : Bx w3 (w.heap.size + 1) 32 #[.bool shQ, .slice ahQ nhQ chQ, .slice AhQ NhQ ChQ] := by rw [hW]; exact ((Bx.set (Bx.set (Bx.set Blz 0 _ rfl) 1 _ rfl) 2 _ rfl).alloc _)
    have Bl1q : Bx w3 (w2.heap.size) 32 #[.bool shQ, .slice ahQ nhQ chQ, .slice AhQ NhQ ChQ] := by rw [hW]; exact (Bx.new' _ _ _ _ (by first | rfl | (simp; done)))
    replace hs := hs1
    clear hs1
    replace Blx := Bl1x
    clear Bl1x
    replace Blz := Bl1z
    clear Bl1z
    have Blq := Bl1q
    clear Bl1q
    replace hQ := hQ.keep hk
    clear hW hk hsz hbw lx lz
    have hz_w3 : w2.heap.size < w3.heap.size := Blq.lt
    exact ret_P rfl rfl rfl Blz hQ hs

theorem pTextS {w : World} {v : Value} {x : Rat} {s : ByteArray} (hs : strV (textQ x) = .string s) (hx : PV w v x) (fx : Fit x) : Calls Try.prog 18 #[v] w (RetV w (.string s)) := hs ▸ pText hx fx

end Go.Proofs.Ytkfekkhhfpkfaaa
/-
  Law 07: are all numbers short?
-/
namespace Go.Proofs.Ytkfekkhhfpkfaaa
open Go.RowKit Dg
attribute [local go_sem ↓] Go.wp_at_zero Go.wp_at_succ

/-- The two cells of a fraction of plain data. -/
def FC (_ : World) (cs : List Value) (x : Int × Int) : Prop := cs = [.int .i64 x.1, .int .i64 x.2]
theorem FC.kept : Kept FC := fun _ _ _ _ h _ => h
/-- At most 30 bits above and below. -/
def shortF (x : Int × Int) : Bool := !(decide (1073741824 < x.1) || (decide (x.1 < -1073741824) || decide (1073741824 < x.2)))
theorem allF_take {α : Type} (f : α → Bool) (l : List α) (k : Nat) (x : α) (h : l[k]? = some x) (ht : (l.take k).all f = true) : (l.take (k + 1)).all f = f x := by
  have hk : k < l.length := (List.getElem?_eq_some_iff.1 h).1
  have hx : l[k] = x := (List.getElem?_eq_some_iff.1 h).2
  rw [List.take_succ_eq_append_getElem hk, List.all_append, ht, hx]
  simp
theorem allF_false {α : Type} (f : α → Bool) (l : List α) (k : Nat) (h : (l.take k).all f = false) : l.all f = false := by
  rw [List.all_eq_false] at *
  obtain ⟨x, hx, h⟩ := h
  exact ⟨x, List.mem_of_mem_take hx, h⟩

end Go.Proofs.Ytkfekkhhfpkfaaa
/-
  Law 07: numbers of 64 bits; the first elements of a list and one more. No function of the program is in sight here.
-/
namespace Go.Proofs.Ytkfekkhhfpkfaaa
open Go.RowKit Dg

def DOk (x : Int × Int) : Prop := -9223372036854775808 ≤ x.1 ∧ x.1 ≤ 9223372036854775807 ∧ -9223372036854775808 ≤ x.2 ∧ x.2 ≤ 9223372036854775807
theorem map_take {α β : Type} (f : α → β) (l : List α) (k : Nat) (x : α) (h : l[k]? = some x) : (l.take (k + 1)).map f = (l.take k).map f ++ [f x] := by
  have hk : k < l.length := (List.getElem?_eq_some_iff.1 h).1
  have hx : l[k] = x := (List.getElem?_eq_some_iff.1 h).2
  rw [List.take_succ_eq_append_getElem hk, hx, List.map_append]
  rfl
theorem C2.openP {w : World} {cs : List Value} {x : Rat × Rat} (h : C2 PC w cs x) : ∃ g1 a1 n1 c1 A1 N1 D1 g2 a2 n2 c2 A2 N2 D2,
    cs = [.bool g1, .slice a1 n1 c1, .slice A1 N1 D1, .bool g2, .slice a2 n2 c2, .slice A2 N2 D2] ∧ PV w (.agg #[.bool g1, .slice a1 n1 c1, .slice A1 N1 D1]) x.1 ∧ PV w (.agg #[.bool g2, .slice a2 n2 c2, .slice A2 N2 D2]) x.2 := by
  obtain ⟨_, _, rfl, ⟨p1, p2, p3, rfl, h1⟩, ⟨q1, q2, q3, rfl, h2⟩⟩ := h
  obtain ⟨g1, a1, n1, c1, A1, N1, D1, e⟩ := h1.shape
  obtain ⟨rfl, rfl, rfl⟩ := agg3 e
  obtain ⟨g2, a2, n2, c2, A2, N2, D2, e⟩ := h2.shape
  obtain ⟨rfl, rfl, rfl⟩ := agg3 e
  exact ⟨_, _, _, _, _, _, _, _, _, _, _, _, _, _, rfl, h1, h2⟩
end Go.Proofs.Ytkfekkhhfpkfaaa
