/-
  Law 07: the sample that each law asks first (awake), over the contract of scan's Peak at that sample.
-/
import Derived.Test.YtkfekkhhfpkfaaaGreatEcho2G
import Derived.Test.YtkfekkhhfpkfaaaGreatPkLawG
set_option linter.unusedSimpArgs false
set_option linter.unusedVariables false
set_option maxRecDepth 100000
set_option maxHeartbeats 16000000
namespace Go.Proofs.YtkfekkhhfpkfaaaGreat
open Go.RowKit Dg
attribute [local go_sem ↓] Go.wp_at_zero Go.wp_at_succ
def awL : List Lay := [(1, 2, 2), (3, 3, 3), (1, 1, 1)]
theorem awL_pos : awL.all layPos = true := by decide +kernel
theorem dec3 : decS 3 = [51] := by
 unfold decS
 rw [if_neg (by decide), dgs_succ (by decide), show 3 / 10 = 0 from rfl, dgs_zero]
 rfl
theorem dec8 : decS 8 = [56] := by
 unfold decS
 rw [if_neg (by decide), dgs_succ (by decide), show 8 / 10 = 0 from rfl, dgs_zero]
 rfl
theorem awL_text1 : strV (textQ (lfQ awL 1 * rfQ awL 1)) = .string ⟨#[45, 51, 47, 56]⟩ := by
 have e : lfQ awL 1 * rfQ awL 1 = mkRat (-3) 8 := by decide +kernel
 have h1 : (mkRat (-3) 8).num = -3 := by decide +kernel
 have h2 : (mkRat (-3) 8).den = 8 := by decide +kernel
 have h3 : ng (mkRat (-3) 8) = true := by decide +kernel
 rw [e]
 unfold strV textQ
 rw [h1, h2, h3, show (-3 : Int).natAbs = 3 from rfl, dec3, dec8]
 rfl
theorem awL_text2 : strV (textQ 3) = .string ⟨#[51]⟩ := by
 have h1 : (3 : Rat).num = 3 := rfl
 have h2 : (3 : Rat).den = 1 := rfl
 have h3 : ng (3 : Rat) = false := by decide +kernel
 unfold strV textQ
 rw [h1, h2, h3, show (3 : Int).natAbs = 3 from rfl, dec3]
 rfl
theorem awL_sz : ∀ x ∈ awL, LaySz 1 x := by
 intro x hx
 simp only [awL, List.mem_cons, List.mem_nil_iff, or_false] at hx
 rcases hx with rfl | rfl | rfl
 ·exact ⟨szQ_int (n := 1) (by decide), szQ_int (n := 2) (by decide), szQ_int (n := 2) (by decide)⟩
 ·exact ⟨szQ_int (n := 3) (by decide), szQ_int (n := 3) (by decide), szQ_int (n := 3) (by decide)⟩
 ·exact ⟨szQ_int (n := 1) (by decide), szQ_int (n := 1) (by decide), szQ_int (n := 1) (by decide)⟩
theorem Rows.ofBx {α : Type} {size : Nat} {T : TypeId} {R : World → List Value → α → Prop} {w : World} {g : Nat} {cs : Array Value} {l : List α} (h : Bx w g T cs) (css : List (List Value)) (e : cs = css.flatten.toArray)
  (hsz : ∀ c ∈ css, c.length = size) (hlen : css.length = l.length) (hm : l.length ≤ 9223372036854775807) (hR : ∀ (i : Nat) (c : List Value) (x : α), css[i]? = some c → l[i]? = some x → R w c x) :
  Rows size T R w (.slice (some ⟨g, 0, none⟩) l.length l.length) l := by
 refine ⟨_, _, rfl, Nat.le_refl _, hm, (fun e => by cases e), (fun a ea _ => by cases ea; exact h.ty), fun i x hx => ?_⟩
 have hi : i < css.length := by have := (List.getElem?_eq_some_iff.1 hx).1; omega
 have hc : css[i]? = some css[i] := List.getElem?_eq_getElem hi
 refine ⟨g, 0, css[i], rfl, hsz _ (List.getElem_mem hi), fun j u hu => ?_, hR i _ x hc hx⟩
 have hj : j < size := by have := (List.getElem?_eq_some_iff.1 hu).1; rw [hsz _ (List.getElem_mem hi)] at this; exact this
 rw [Nat.zero_add]
 refine h.at _ ?_
 rw [e]
 have := flat_get css hsz i j _ hc hj
 simpa [hu] using this
theorem rowsB (v : Value) (W W' : World) {l : List (Rat × Rat)} (h : Rows 6 123 (C2 PC) W v l) (hb : Below W.heap.size W W') : Rows 6 123 (C2 PC) W' v l := h.mono (C2.kept PC.kept) hb
theorem aw_Echoes {w : World} {g : Nat} {a1 a2 a3 b1 b2 b3 c1 c2 c3 d1 d2 d3 : Value} (h1 : PV w (.agg #[a1, a2, a3]) 1) (h2 : PV w (.agg #[b1, b2, b3]) 2) (h2' : PV w (.agg #[c1, c2, c3]) 2) (h3 : PV w (.agg #[d1, d2, d3]) 3)
  (h : Bx w g 120 #[a1, a2, a3, b1, b2, b3, c1, c2, c3, d1, d2, d3, d1, d2, d3, d1, d2, d3, a1, a2, a3, a1, a2, a3, a1, a2, a3]) :
  Calls Tryz.prog 49 #[.slice (some ⟨g, 0, none⟩) 3 3] w (fun e w' => ∃ ao c, e = .returned (.tuple #[.slice ao 2 c, .int .i64 0]) ∧ Rows 6 123 (C2 PC) w' (.slice ao 2 c) (echoQ awL 2) ∧ Below w.heap.size w w') := by
 have hr : Rows 9 120 (C3 PC) w (.slice (some ⟨g, 0, none⟩) 3 3) awL := by
  refine Rows.ofBx (l := awL) h [[a1, a2, a3, b1, b2, b3, c1, c2, c3], [d1, d2, d3, d1, d2, d3, d1, d2, d3], [a1, a2, a3, a1, a2, a3, a1, a2, a3]] rfl ?_ rfl (by decide) ?_
  ·intro c hc
   simp only [List.mem_cons, List.mem_nil_iff, or_false] at hc
   rcases hc with rfl | rfl | rfl <;> rfl
  ·intro i c x hc hx
   match i, hc, hx with
   | 0, hc, hx => cases hc; cases hx; exact ⟨[_, _, _], [_, _, _], [_, _, _], rfl, ⟨_, _, _, rfl, h1⟩, ⟨_, _, _, rfl, h2⟩, ⟨_, _, _, rfl, h2'⟩⟩
   | 1, hc, hx => cases hc; cases hx; exact ⟨[_, _, _], [_, _, _], [_, _, _], rfl, ⟨_, _, _, rfl, h3⟩, ⟨_, _, _, rfl, h3⟩, ⟨_, _, _, rfl, h3⟩⟩
   | 2, hc, hx => cases hc; cases hx; exact ⟨[_, _, _], [_, _, _], [_, _, _], rfl, ⟨_, _, _, rfl, h1⟩, ⟨_, _, _, rfl, h1⟩, ⟨_, _, _, rfl, h1⟩⟩
 refine (sc_Echoes_ok _ awL 1 w hr (by decide) (by decide) awL_pos (by decide) awL_sz).mono ?_
 rintro e w' ⟨v1, _, rfl, hx, rfl, hb⟩
 obtain ⟨ao, c, rfl, _⟩ := hx.slice
 exact ⟨ao, c, rfl, hx, hb⟩
end Go.Proofs.YtkfekkhhfpkfaaaGreat
namespace Go.Proofs.YtkfekkhhfpkfaaaGreat
open Go.RowKit Dg
attribute [local go_sem ↓] Go.wp_at_zero Go.wp_at_succ
def PeakOk : Prop := ∀ (g : Nat) (w : World), Bx w g 45 #[.float .f32 0, .float .f32 1065353216, .float .f32 3225419776, .float .f32 1077936128, .float .f32 1073741824] → Calls Tryz.prog 14 #[.slice (some ⟨g, 0, none⟩) 5 5, .agg #[.int .i64 0, .int .i64 5, .float .f32 1065353216]] w
 (fun e w' => ∃ v, e = .returned (.tuple #[.int .i64 2, v, .int .i64 0]) ∧ PV w' v 3 ∧ Below w.heap.size w w')
theorem szQ_three : SzQ 1 (3 : Rat) := szQ_int (n := 3) (by decide)
theorem l7_awake_of (hPk : PeakOk) (w : World) : Calls Tryz.prog 8 #[] w (RetV w (.bool true)) := by
 have hs := Below.refl w.heap.size w
 have HPK := Lib.hid hPk
 clear hPk
 go_enter Tryz.func8, Tryz.ntmps8
 go_wp2_with fail
 refine (p_Int_calls 1 _ (by omega) (by omega)).mono ?_
 rintro e w31 ⟨_, rfl, ha, hb⟩
 obtain ⟨sha, aha, nha, cha, Aha, Nha, Cha, rfl⟩ := ha.shape
 replace hs := bStep hs hb
 clear hb
 replace ha := ha.of_eq (show ((1 : Int) : Rat) = 1 from rfl)
 go_wp2_with fail
 refine (p_Int_calls 3 _ (by omega) (by omega)).mono ?_
 rintro e w32 ⟨_, rfl, hb3, hb⟩
 obtain ⟨shb3, ahb3, nhb3, chb3, Ahb3, Nhb3, Chb3, rfl⟩ := hb3.shape
 replace hs := bStep hs hb
 replace ha := ha.mono hb
 clear hb
 replace hb3 := hb3.of_eq (show ((3 : Int) : Rat) = 3 from rfl)
 go_upto_region 2 with fail
 refine Code.abs ?_
 intro w33 hW
 have hsz := hs.size
 have hbw : Below w.heap.size w32 w33 := by rw [hW]; exact (Below.alloc (Below.alloc (Below.refl w.heap.size w32) (by first | exact hs.size | (have := hs.size; simp; done) | (have := hs.size; simp; omega)) _) (by first | exact hs.size | (have := hs.size; simp; done) | (have := hs.size; simp; omega)) _)
 have hs1 : Below w.heap.size w w33 := hs.trans hbw
 have hk : KeepD w32 w33 := by rw [hW]; exact (((KeepD.refl _).alloc _).alloc _)
 have Bl1a : Bx w33 (w32.heap.size) 32 #[.bool sha, .slice aha nha cha, .slice Aha Nha Cha] := by rw [hW]; exact ((Bx.new' _ _ _ _ (by first | rfl | (simp; done))).alloc _)
 have Bl1b : Bx w33 (w32.heap.size + 1) 32 #[.bool shb3, .slice ahb3 nhb3 chb3, .slice Ahb3 Nhb3 Chb3] := by rw [hW]; exact (Bx.new' _ _ _ _ (by first | rfl | (simp; done)))
 replace hs := hs1
 clear hs1
 have Bla := Bl1a
 clear Bl1a
 have Blb := Bl1b
 clear Bl1b
 replace ha := ha.keep hk
 replace hb3 := hb3.keep hk
 clear hW hk hsz hbw
 have hz_w33 := Blb.lt
 refine U_region (S := fun w' => w'.cell? ⟨w32.heap.size, 0, none⟩ = some (.bool sha) ∧ w'.cell? ⟨w32.heap.size, 1, none⟩ = some (.slice aha nha cha) ∧ w'.cell? ⟨w32.heap.size, 2, none⟩ = some (.slice Aha Nha Cha) ∧ w'.cell? ⟨w32.heap.size + 1, 0, none⟩ = some (.bool shb3) ∧ w'.cell? ⟨w32.heap.size + 1, 1, none⟩ = some (.slice ahb3 nhb3 chb3) ∧ w'.cell? ⟨w32.heap.size + 1, 2, none⟩ = some (.slice Ahb3 Nhb3 Chb3)) (by kernel_rfl) 18 ?_
 refine AnyU.abs ?_
 intro w34 hW
 have hb : Below w33.heap.size w33 w34 := by rw [hW]; exact bDrew _
 replace hs := bStep hs hb
 replace Bla := Bla.mono hb
 replace Blb := Blb.mono hb
 replace ha := ha.mono hb
 replace hb3 := hb3.mono hb
 clear hb hW
 have B0 := Bla.a0
 have B1 := Bla.a1
 have B2 := Bla.a2
 have B3 := Blb.a0
 have B4 := Blb.a1
 have B5 := Blb.a2
 have hH := (show w34.cell? ⟨w32.heap.size, 0, none⟩ = some (.bool sha) ∧ w34.cell? ⟨w32.heap.size, 1, none⟩ = some (.slice aha nha cha) ∧ w34.cell? ⟨w32.heap.size, 2, none⟩ = some (.slice Aha Nha Cha) ∧ w34.cell? ⟨w32.heap.size + 1, 0, none⟩ = some (.bool shb3) ∧ w34.cell? ⟨w32.heap.size + 1, 1, none⟩ = some (.slice ahb3 nhb3 chb3) ∧ w34.cell? ⟨w32.heap.size + 1, 2, none⟩ = some (.slice Ahb3 Nhb3 Chb3) from ⟨B0, B1, B2, B3, B4, B5⟩)
 refine U_take (i := 0) (v := ?_) rfl (by kernel_rfl) (by kernel_rfl) (by kernel_rfl) (by kernel_rfl) (fun _ _ _ h => h) (Or.inl ⟨by rfl, ?_⟩) hH ?_
 rotate_left
 ·intro w hSw
  try dsimp only at hSw
  go_simp
  try with_reducible rfl
 try simp only [Act.put, List.setIfInBounds_toArray, List.set_cons_zero, List.set_cons_succ]
 refine U_take (i := 4) (v := ?_) rfl (by kernel_rfl) (by kernel_rfl) (by kernel_rfl) (by kernel_rfl) (fun _ _ _ h => h) (Or.inl ⟨by rfl, ?_⟩) hH ?_
 rotate_left
 ·intro w hSw
  try dsimp only at hSw
  go_simp
  try with_reducible rfl
 try simp only [Act.put, List.setIfInBounds_toArray, List.set_cons_zero, List.set_cons_succ]
 refine U_take (i := 5) (v := ?_) rfl (by kernel_rfl) (by kernel_rfl) (by kernel_rfl) (by kernel_rfl) (fun _ _ _ h => h) (Or.inl ⟨by rfl, ?_⟩) hH ?_
 rotate_left
 ·intro w hSw
  try dsimp only at hSw
  go_simp
  try with_reducible rfl
 try simp only [Act.put, List.setIfInBounds_toArray, List.set_cons_zero, List.set_cons_succ]
 refine U_take (i := 6) (v := ?_) rfl (by kernel_rfl) (by kernel_rfl) (by kernel_rfl) (by kernel_rfl) (fun _ _ _ h => h) (Or.inl ⟨by rfl, ?_⟩) hH ?_
 rotate_left
 ·intro w hSw
  try dsimp only at hSw
  go_simp
  try with_reducible rfl
 try simp only [Act.put, List.setIfInBounds_toArray, List.set_cons_zero, List.set_cons_succ]
 refine U_take (i := 7) (v := ?_) rfl (by kernel_rfl) (by kernel_rfl) (by kernel_rfl) (by kernel_rfl) (fun _ _ _ h => h) (Or.inl ⟨by rfl, ?_⟩) hH ?_
 rotate_left
 ·intro w hSw
  try dsimp only at hSw
  go_simp
  try with_reducible rfl
 try simp only [Act.put, List.setIfInBounds_toArray, List.set_cons_zero, List.set_cons_succ]
 refine U_take (i := 8) (v := ?_) rfl (by kernel_rfl) (by kernel_rfl) (by kernel_rfl) (by kernel_rfl) (fun _ _ _ h => h) (Or.inl ⟨by rfl, ?_⟩) hH ?_
 rotate_left
 ·intro w hSw
  try dsimp only at hSw
  go_simp
  try with_reducible rfl
 try simp only [Act.put, List.setIfInBounds_toArray, List.set_cons_zero, List.set_cons_succ]
 refine U_take (i := 9) (v := ?_) rfl (by kernel_rfl) (by kernel_rfl) (by kernel_rfl) (by kernel_rfl) (fun _ _ _ h => h) (Or.inl ⟨by rfl, ?_⟩) hH ?_
 rotate_left
 ·intro w hSw
  try dsimp only at hSw
  go_simp
  try with_reducible rfl
 try simp only [Act.put, List.setIfInBounds_toArray, List.set_cons_zero, List.set_cons_succ]
 refine U_take (i := 10) (v := ?_) rfl (by kernel_rfl) (by kernel_rfl) (by kernel_rfl) (by kernel_rfl) (fun _ _ _ h => h) (Or.inl ⟨by rfl, ?_⟩) hH ?_
 rotate_left
 ·intro w hSw
  try dsimp only at hSw
  go_simp
  try with_reducible rfl
 try simp only [Act.put, List.setIfInBounds_toArray, List.set_cons_zero, List.set_cons_succ]
 refine U_take (i := 11) (v := ?_) rfl (by kernel_rfl) (by kernel_rfl) (by kernel_rfl) (by kernel_rfl) (fun _ _ _ h => h) (Or.inl ⟨by rfl, ?_⟩) hH ?_
 rotate_left
 ·intro w hSw
  try dsimp only at hSw
  go_simp
  try with_reducible rfl
 try simp only [Act.put, List.setIfInBounds_toArray, List.set_cons_zero, List.set_cons_succ]
 clear hH
 refine U_one (i := 1) (by kernel_rfl) rfl (fun K hK => ?_)
 go_simp
 (with_reducible refine (p_Int_calls 2 _ (by omega) (by omega)).mono ?_)
 rintro e w35 ⟨_, rfl, hc, hb⟩
 obtain ⟨shc, ahc, nhc, chc, Ahc, Nhc, Chc, rfl⟩ := hc.shape
 replace hs := bStep hs hb
 replace Bla := Bla.mono hb
 replace Blb := Blb.mono hb
 replace ha := ha.mono hb
 replace hb3 := hb3.mono hb
 replace B0 := cellK B0 hb
 replace B1 := cellK B1 hb
 replace B2 := cellK B2 hb
 replace B3 := cellK B3 hb
 replace B4 := cellK B4 hb
 replace B5 := cellK B5 hb
 clear hb
 replace hc := hc.of_eq (show ((2 : Int) : Rat) = 2 from rfl)
 try go_wp2_with fail
 refine hK.out _ _ ⟨B0, B1, B2, B3, B4, B5⟩ (fun hH => ?_)
 clear hK K
 try simp only [Act.put, List.setIfInBounds_toArray, List.set_cons_zero, List.set_cons_succ]
 clear hH
 refine U_one (i := 2) (by kernel_rfl) rfl (fun K hK => ?_)
 go_simp
 (with_reducible refine (p_Int_calls 2 _ (by omega) (by omega)).mono ?_)
 rintro e w36 ⟨_, rfl, hd, hb⟩
 obtain ⟨shd, ahd, nhd, chd, Ahd, Nhd, Chd, rfl⟩ := hd.shape
 replace hs := bStep hs hb
 replace Bla := Bla.mono hb
 replace Blb := Blb.mono hb
 replace ha := ha.mono hb
 replace hb3 := hb3.mono hb
 replace hc := hc.mono hb
 replace B0 := cellK B0 hb
 replace B1 := cellK B1 hb
 replace B2 := cellK B2 hb
 replace B3 := cellK B3 hb
 replace B4 := cellK B4 hb
 replace B5 := cellK B5 hb
 clear hb
 replace hd := hd.of_eq (show ((2 : Int) : Rat) = 2 from rfl)
 try go_wp2_with fail
 refine hK.out _ _ ⟨B0, B1, B2, B3, B4, B5⟩ (fun hH => ?_)
 clear hK K
 try simp only [Act.put, List.setIfInBounds_toArray, List.set_cons_zero, List.set_cons_succ]
 refine U_take (i := 3) (v := ?_) rfl (by kernel_rfl) (by kernel_rfl) (by kernel_rfl) (by kernel_rfl) (fun _ _ _ h => h) (Or.inl ⟨by rfl, ?_⟩) hH ?_
 rotate_left
 ·intro w hSw
  try dsimp only at hSw
  go_simp
  try with_reducible rfl
 try simp only [Act.put, List.setIfInBounds_toArray, List.set_cons_zero, List.set_cons_succ]
 clear hH
 refine U_one (i := 12) (by kernel_rfl) rfl (fun K hK => ?_)
 go_simp
 generalize hWn : (w36.alloc (.cells #[.bool sha, .slice aha nha cha, .slice Aha Nha Cha, .bool shc, .slice ahc nhc chc, .slice Ahc Nhc Chc, .bool shd, .slice ahd nhd chd, .slice Ahd Nhd Chd, .bool shb3, .slice ahb3 nhb3 chb3, .slice Ahb3 Nhb3 Chb3, .bool shb3, .slice ahb3 nhb3 chb3, .slice Ahb3 Nhb3 Chb3, .bool shb3, .slice ahb3 nhb3 chb3, .slice Ahb3 Nhb3 Chb3, .bool sha, .slice aha nha cha, .slice Aha Nha Cha, .bool sha, .slice aha nha cha, .slice Aha Nha Cha, .bool sha, .slice aha nha cha, .slice Aha Nha Cha] 120)) = w37
 have hb : Below w36.heap.size w36 w37 := by rw [← hWn]; exact (Below.refl _ _).alloc (Nat.le_refl _) _
 have Ble : Bx w37 (w36.heap.size) 120 #[.bool sha, .slice aha nha cha, .slice Aha Nha Cha, .bool shc, .slice ahc nhc chc, .slice Ahc Nhc Chc, .bool shd, .slice ahd nhd chd, .slice Ahd Nhd Chd, .bool shb3, .slice ahb3 nhb3 chb3, .slice Ahb3 Nhb3 Chb3, .bool shb3, .slice ahb3 nhb3 chb3, .slice Ahb3 Nhb3 Chb3, .bool shb3, .slice ahb3 nhb3 chb3, .slice Ahb3 Nhb3 Chb3, .bool sha, .slice aha nha cha, .slice Aha Nha Cha, .bool sha, .slice aha nha cha, .slice Aha Nha Cha, .bool sha, .slice aha nha cha, .slice Aha Nha Cha] := by rw [← hWn]; exact Bx.new _ _ _
 have na_e : w32.heap.size ≠ w36.heap.size := by have := Bla.lt; omega
 have nb_e : w32.heap.size + 1 ≠ w36.heap.size := by have := Blb.lt; omega
 have sz_e : w.heap.size ≤ w36.heap.size := hs.size
 replace hs := bStep hs hb
 replace Bla := Bla.mono hb
 replace Blb := Blb.mono hb
 replace ha := ha.mono hb
 replace hb3 := hb3.mono hb
 replace hc := hc.mono hb
 replace hd := hd.mono hb
 replace B0 := cellK B0 hb
 replace B1 := cellK B1 hb
 replace B2 := cellK B2 hb
 replace B3 := cellK B3 hb
 replace B4 := cellK B4 hb
 replace B5 := cellK B5 hb
 clear hb hWn
 refine hK.out _ _ ⟨B0, B1, B2, B3, B4, B5⟩ (fun hH => ?_)
 clear hK K
 try simp only [Act.put, List.setIfInBounds_toArray, List.set_cons_zero, List.set_cons_succ]
 clear hH
 refine U_one (i := 13) (by kernel_rfl) rfl (fun K hK => ?_)
 go_simp
 (with_reducible refine (aw_Echoes ha hc hd hb3 Ble).mono ?_)
 rintro e w38 ⟨ax, kx, rfl, hrx, hb⟩
 replace hs := bStep hs hb
 replace Bla := Bla.mono hb
 replace Blb := Blb.mono hb
 replace Ble := Ble.mono hb
 replace ha := ha.mono hb
 replace hb3 := hb3.mono hb
 replace hc := hc.mono hb
 replace hd := hd.mono hb
 replace B0 := cellK B0 hb
 replace B1 := cellK B1 hb
 replace B2 := cellK B2 hb
 replace B3 := cellK B3 hb
 replace B4 := cellK B4 hb
 replace B5 := cellK B5 hb
 clear hb
 try go_wp2_with fail
 refine hK.out _ _ ⟨B0, B1, B2, B3, B4, B5⟩ (fun hH => ?_)
 clear hK K
 try simp only [Act.put, List.setIfInBounds_toArray, List.set_cons_zero, List.set_cons_succ]
 refine U_take (i := 14) (v := ?_) rfl (by kernel_rfl) (by kernel_rfl) (by kernel_rfl) (by kernel_rfl) (fun _ _ _ h => h) (Or.inl ⟨by rfl, ?_⟩) hH ?_
 rotate_left
 ·intro w hSw
  try dsimp only at hSw
  go_simp
  try with_reducible rfl
 try simp only [Act.put, List.setIfInBounds_toArray, List.set_cons_zero, List.set_cons_succ]
 refine U_take (i := 15) (v := ?_) rfl (by kernel_rfl) (by kernel_rfl) (by kernel_rfl) (by kernel_rfl) (fun _ _ _ h => h) (Or.inl ⟨by rfl, ?_⟩) hH ?_
 rotate_left
 ·intro w hSw
  try dsimp only at hSw
  go_simp
  try with_reducible rfl
 try simp only [Act.put, List.setIfInBounds_toArray, List.set_cons_zero, List.set_cons_succ]
 refine U_take (i := 16) (v := ?_) rfl (by kernel_rfl) (by kernel_rfl) (by kernel_rfl) (by kernel_rfl) (fun _ _ _ h => h) (Or.inl ⟨by rfl, ?_⟩) hH ?_
 rotate_left
 ·intro w hSw
  try dsimp only at hSw
  go_simp
  try with_reducible rfl
 try simp only [Act.put, List.setIfInBounds_toArray, List.set_cons_zero, List.set_cons_succ]
 refine U_take (i := 17) (v := ?_) rfl (by kernel_rfl) (by kernel_rfl) (by kernel_rfl) (by kernel_rfl) (fun _ _ _ h => h) (Or.inl ⟨by rfl, ?_⟩) hH ?_
 rotate_left
 ·intro w hSw
  try dsimp only at hSw
  go_simp
  try with_reducible rfl
 try simp only [Act.put, List.setIfInBounds_toArray, List.set_cons_zero, List.set_cons_succ]
 clear hH
 refine U_last (by kernel_rfl) rfl (by kernel_rfl) (fun K hK => ?_)
 go_simp
 refine hK.out _ _ ?_
 clear hK K
 intro wl hW
 rw [hW]
 clear hW wl
 try simp only [Act.put, List.setIfInBounds_toArray, List.set_cons_zero, List.set_cons_succ]
 clear B0 B1 B2 B3 B4 B5
 clear Bla Blb Ble ha hb3 hc hd
 go_wp2_with fail
 refine Calls.abs ?_
 intro w39 hW
 have hsz := hs.size
 have hbw : Below w.heap.size w38 w39 := by rw [hW]; exact (Below.alloc (Below.refl w.heap.size w38) (by first | exact hs.size | (have := hs.size; simp; done) | (have := hs.size; simp; omega)) _)
 have hs1 : Below w.heap.size w w39 := hs.trans hbw
 have hk : KeepD w38 w39 := by rw [hW]; exact ((KeepD.refl _).alloc _)
 have Bl1f : Bx w39 (w38.heap.size) 45 #[.float .f32 0, .float .f32 1065353216, .float .f32 3225419776, .float .f32 1077936128, .float .f32 1073741824] := by rw [hW]; exact (Bx.new' _ _ _ _ (by first | rfl | (simp; done)))
 replace hs := hs1
 clear hs1
 have hrx1 : Rows 6 123 (C2 PC) w39 (.slice ax 2 kx) (echoQ awL 2) := by rw [hW]; exact (rowsB _ _ _ hrx (Below.alloc (Below.refl _ _) (Nat.le_refl _) _))
 replace hrx := hrx1
 clear hrx1
 have Blf := Bl1f
 clear Bl1f
 clear hW hk hsz hbw
 have hz_w39 := Blf.lt
 refine (HPK.out _ _ Blf).mono ?_
 rintro e w40 ⟨vp, rfl, hp, hb⟩
 replace hs := bStep hs hb
 replace Blf := Blf.mono hb
 replace hrx := rowsB _ _ _ hrx hb
 clear hb
 obtain ⟨shp, ahp, nhp, chp, Ahp, Nhp, Chp, rfl⟩ := hp.shape
 clear Blf
 go_upto_region 4 with fail
 refine Code.abs ?_
 intro w41 hW
 have hsz := hs.size
 have hbw : Below w.heap.size w40 w41 := by rw [hW]; exact (Below.alloc (Below.refl w.heap.size w40) (by first | exact hs.size | (have := hs.size; simp; done) | (have := hs.size; simp; omega)) _)
 have hs1 : Below w.heap.size w w41 := hs.trans hbw
 have hk : KeepD w40 w41 := by rw [hW]; exact ((KeepD.refl _).alloc _)
 have Bl1m : Bx w41 (w40.heap.size) 32 #[.bool shp, .slice ahp nhp chp, .slice Ahp Nhp Chp] := by rw [hW]; exact (Bx.new' _ _ _ _ (by first | rfl | (simp; done)))
 replace hs := hs1
 clear hs1
 have hrx1 : Rows 6 123 (C2 PC) w41 (.slice ax 2 kx) (echoQ awL 2) := by rw [hW]; exact (rowsB _ _ _ hrx (Below.alloc (Below.refl _ _) (Nat.le_refl _) _))
 replace hrx := hrx1
 clear hrx1
 have Blm := Bl1m
 clear Bl1m
 replace hp := hp.keep hk
 clear hW hk hsz hbw
 have hz_w41 := Blm.lt
 have hx1 : (echoQ awL 2)[1]? = some (tmQ awL 2, lfQ awL 1 * rfQ awL 1) := rfl
 have hfit : Fit (lfQ awL 1 * rfQ awL 1) := (echo_sz awL_sz (List.all_eq_true.1 awL_pos) (by decide) (by decide) _ (List.mem_of_getElem? hx1)).2.fit
 obtain ⟨bx, ox, dx, csx, hvx, hlenx, hatx, hcx⟩ := hrx.get hx1
 injection hvx with e1 e2 e3
 subst e1 e3
 obtain ⟨gx1, ax1, nx1, cx1, Ax1, Nx1, Dx1, gx2, ax2, nx2, cx2, Ax2, Nx2, Dx2, rfl, hp1, hp2⟩ := hcx.openP
 have E3 := hatx 3 _ rfl
 have E4 := hatx 4 _ rfl
 have E5 := hatx 5 _ rfl
 clear hatx hcx hlenx hx1 hrx hp1 e2
 have HFT := Lib.hid hfit
 clear hfit
 have HP2 := Lib.hid hp2
 have HPP := Lib.hid hp
 clear hp2 hp
 simp only [Nat.one_mul, Nat.add_assoc, Nat.reduceAdd] at E3 E4 E5
 go_wp2_with fail
 refine (pTextS awL_text1 HP2.out HFT.out).mono ?_
 rintro e w60 ⟨rfl, hb⟩
 replace hs := bStep hs hb
 have hp := HPP.out.mono hb
 replace Blm := Blm.mono hb
 clear hb E3 E4 E5
 have B6 := Blm.a0
 have B7 := Blm.a1
 have B8 := Blm.a2
 go_wp2_with fail
 refine (pTextS awL_text2 hp szQ_three.fit).mono ?_
 rintro e w61 ⟨rfl, hb⟩
 replace hs := bStep hs hb
 clear hb
 go_wp2
 go_ret
 exact ⟨by simp, hs⟩
end Go.Proofs.YtkfekkhhfpkfaaaGreat
