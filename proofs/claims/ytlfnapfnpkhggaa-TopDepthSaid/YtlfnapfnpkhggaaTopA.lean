/-
  Top: numbers, plies laid of plain data; laminate's check of plies and their thickness.
-/
import Derived.Test.YtlfnapfnpkhggaaLawSplit0
import Derived.Test.YtlfnapfnpkhggaaPkHeld3
set_option linter.unusedSimpArgs false
set_option linter.unusedVariables false
namespace Go.Proofs.Ytlfnapfnpkhggaa
open Go.RowKit Dg
attribute [local go_sem ↓] Go.wp_at_zero Go.wp_at_succ

/-- Three small numbers of plain data. -/
abbrev I3 := Int × Int × Int
def i3At (L : List I3) (i : Nat) : I3 := L.getD i (0, 0, 0)
def I3C (_ : World) (cs : List Value) (x : I3) : Prop := cs = [.int .i8 x.1, .int .i8 x.2.1, .int .i8 x.2.2]
theorem I3C.kept : Kept I3C := fun _ _ _ _ h _ => h
/-- A ply: its direction's parts, its thickness. -/
def PlyC (_ : World) (cs : List Value) (x : I3) : Prop := cs = [.int .i64 0, .int .i64 x.1, .int .i64 x.2.1, .int .i64 x.2.2]
theorem PlyC.kept : Kept PlyC := fun _ _ _ _ h _ => h
def plyF (x : I3) : I3 := (if x.1.tmod 5 = 0 ∧ x.2.1.tmod 5 = 0 then 1 else x.1.tmod 5, x.2.1.tmod 5, 1 + max x.2.2 0)
theorem i3_some {L : List I3} {i : Nat} (h : i < L.length) : L[i]? = some (i3At L i) := by unfold i3At; rw [List.getD_eq_getElem?_getD, List.getElem?_eq_getElem h]; rfl
theorem RowsI.open_ {α : Type} {size : Nat} {R : World → List Value → α → Prop} {w : World} {v : Value} {l : List α} (h : RowsI size R w v l) (hl : 0 < l.length) : ∃ b o c, v = .slice (some ⟨b, o, none⟩) l.length c ∧ l.length ≤ c ∧ c ≤ 9223372036854775807 := by
  obtain ⟨ao, c, e, h1, h2, h3, h5⟩ := h
  obtain ⟨b, o, cs, rfl, _⟩ := h5 0 _ (List.getElem?_eq_getElem hl)
  exact ⟨b, o, c, e, h1, h2⟩
theorem rowI3_at {w : World} {b o n c : Nat} {L : List I3} {i : Nat} (h : RowsI 3 I3C w (.slice (some ⟨b, o, none⟩) n c) L) (hi : i < L.length) :
    w.cell? ⟨b, o + i * 3, none⟩ = some (.int .i8 (i3At L i).1) ∧ w.cell? ⟨b, o + i * 3 + 1, none⟩ = some (.int .i8 (i3At L i).2.1) ∧ w.cell? ⟨b, o + i * 3 + 2, none⟩ = some (.int .i8 (i3At L i).2.2) ∧ b < w.heap.size := by
  obtain ⟨b', o', c', cs, hv, _, hat, rfl⟩ := h.get (i3_some hi)
  obtain ⟨e, rfl⟩ := sliceE hv
  injection e with e
  injection e with e1 e2
  subst e1 e2
  exact ⟨hat 0 _ rfl, hat 1 _ rfl, hat 2 _ rfl, cell_lt (hat 0 _ rfl)⟩
theorem rowPly_at {w : World} {U : TypeId} {b o n c : Nat} {L : List I3} {i : Nat} (h : Rows 4 U PlyC w (.slice (some ⟨b, o, none⟩) n c) L) (hi : i < L.length) :
    w.cell? ⟨b, o + i * 4, none⟩ = some (.int .i64 0) ∧ w.cell? ⟨b, o + i * 4 + 1, none⟩ = some (.int .i64 (i3At L i).1) ∧ w.cell? ⟨b, o + i * 4 + 2, none⟩ = some (.int .i64 (i3At L i).2.1) ∧ w.cell? ⟨b, o + i * 4 + 3, none⟩ = some (.int .i64 (i3At L i).2.2) ∧ b < w.heap.size := by
  obtain ⟨b', o', c', cs, hv, _, hat, rfl⟩ := h.get (i3_some hi)
  obtain ⟨e, rfl⟩ := sliceE hv
  injection e with e
  injection e with e1 e2
  subst e1 e2
  exact ⟨hat 0 _ rfl, hat 1 _ rfl, hat 2 _ rfl, hat 3 _ rfl, cell_lt (hat 0 _ rfl)⟩
theorem ply_info : (Try.prog.info? 68).map (fun i => (i.zero, i.size, i.bytes)) = some (some (.agg #[.int .i64 0, .int .i64 0, .int .i64 0, .int .i64 0]), 4, 32) := by kernel_rfl
/-- The plies are right ones. -/
def PlyOk (x : I3) : Prop := -4 ≤ x.1 ∧ x.1 ≤ 4 ∧ -4 ≤ x.2.1 ∧ x.2.1 ≤ 4 ∧ (x.1 ≠ 0 ∨ x.2.1 ≠ 0) ∧ 1 ≤ x.2.2 ∧ x.2.2 ≤ 128
theorem tm5 (x : Int) : -4 ≤ x.tmod 5 ∧ x.tmod 5 ≤ 4 := by
  have a := Int.tmod_lt_of_pos x (show (0 : Int) < 5 by omega)
  have b := Int.tmod_lt_of_pos (-x) (show (0 : Int) < 5 by omega)
  rw [Int.neg_tmod] at b
  omega
theorem plyF_ok (x : I3) (h0 : -128 ≤ x.2.2) (h1 : x.2.2 ≤ 127) : PlyOk (plyF x) := by
  have a := Int.tmod_lt_of_pos x.1 (show (0 : Int) < 5 by omega)
  have b := Int.tmod_lt_of_pos x.2.1 (show (0 : Int) < 5 by omega)
  have c : -5 < x.1.tmod 5 := by
    have := Int.tmod_lt_of_pos (-x.1) (show (0 : Int) < 5 by omega)
    rw [Int.neg_tmod] at this; omega
  have d : -5 < x.2.1.tmod 5 := by
    have := Int.tmod_lt_of_pos (-x.2.1) (show (0 : Int) < 5 by omega)
    rw [Int.neg_tmod] at this; omega
  unfold PlyOk plyF
  dsimp only
  split
  · rename_i h; rw [h.2]; refine ⟨by omega, by omega, by omega, by omega, .inl (by omega), by omega, by omega⟩
  · refine ⟨by omega, by omega, by omega, by omega, by omega, by omega, by omega⟩

set_option maxRecDepth 100000 in
set_option maxHeartbeats 4000000 in
theorem top_num (n : Int) (w : World) (ln : 0 ≤ n) (un : n ≤ 4294967295) :
    Calls Try.prog 26 #[.int .i64 n] w (RetP w ((n : Int))) := by
  have hs := Below.refl w.heap.size w
  go_enter Try.func26, Try.ntmps26
  go_wp2_with fail
  refine Calls.abs ?_
  intro w1 hW
  have hG : Gr [] w w1 := by rw [hW]; exact (Gr.refl _ _).alloc
  have hbw : Below w.heap.size w w1 := hG.below0 hs.size
  have hk : KeepD w w1 := hG.keep True.intro
  have sz_w1 : w.heap.size ≤ w.heap.size := hs.size
  have Blk : Bx w1 (w.heap.size) 36 #[.bool false, .slice none 0 0, .slice none 0 0] := by rw [hW]; exact (Bx.new0 _ _ _)
  replace hs := hs.trans hbw
  clear hW hG hk hbw
  have hz_w1 : w.heap.size < w1.heap.size := Blk.lt
  with_reducible refine (p_Int_calls n _ (by omega) (by omega)).mono ?_
  rintro e w2 ⟨_, rfl, h1, hb⟩
  obtain ⟨sh1, ah1, nh1, ch1, Ah1, Nh1, Ch1, rfl⟩ := h1.shape
  replace hs := bStep hs hb
  replace Blk := Blk.mono hb
  clear hb
  have ck_0 : w2.cell? ⟨w.heap.size, 0, none⟩ = some (.bool false) := Blk.at 0 rfl
  have ck_1 : w2.cell? ⟨w.heap.size, 1, none⟩ = some (.slice none 0 0) := Blk.at 1 rfl
  have ck_2 : w2.cell? ⟨w.heap.size, 2, none⟩ = some (.slice none 0 0) := Blk.at 2 rfl
  have fk := Blk.free
  have Lk : w.heap.size < w2.heap.size := Blk.lt
  go_wp2
  clear ck_0 ck_1 ck_2 fk Lk
  refine bodyPost.abs ?_
  intro w3 hW
  have hG : Gr [w.heap.size] w2 w3 := by rw [hW]; exact (Gr.refl _ _).set.set.set
  have hsz := hs.size
  have lk := Blk.lt
  have hbw : Below w.heap.size w2 w3 := hG.below1 hs.size (by first | omega | assumption)
  have hk : KeepD w2 w3 := hG.keep ⟨⟨_, Blk.ty, by decide⟩, True.intro⟩
  have Bl1k : Bx w3 (w.heap.size) 36 #[.bool sh1, .slice ah1 nh1 ch1, .slice Ah1 Nh1 Ch1] := by rw [hW]; exact Blk.set3
  replace hs := hs.trans hbw
  replace Blk := Bl1k
  clear Bl1k
  replace h1 := h1.keep hk
  clear hW hG hk hbw hsz lk
  have ck_0 : w3.cell? ⟨w.heap.size, 0, none⟩ = some (.bool sh1) := Blk.at 0 rfl
  have ck_1 : w3.cell? ⟨w.heap.size, 1, none⟩ = some (.slice ah1 nh1 ch1) := Blk.at 1 rfl
  have ck_2 : w3.cell? ⟨w.heap.size, 2, none⟩ = some (.slice Ah1 Nh1 Ch1) := Blk.at 2 rfl
  exact bodyPost_ret (v := .agg #[.bool sh1, .slice ah1 nh1 ch1, .slice Ah1 Nh1 Ch1]) (by simp [results, Try.results26, go_sem, ck_0, ck_1, ck_2]) rfl ⟨_, rfl, h1, hs⟩

set_option maxRecDepth 100000 in
set_option maxHeartbeats 4000000 in
theorem lam_far (x : Int) (h0 : -100 ≤ x) (h1 : x ≤ 100) (w : World) :
    Calls Try.prog 107 #[.int .i64 x] w (RetV w (.bool false)) := by
  have hs := Below.refl w.heap.size w
  go_enter Try.func107, Try.ntmps107
  have q1 : ¬ (x < -1048576) := (by omega)
  have q1d : (x < -1048576) = False := eq_false (by omega)
  have q2 : ¬ (1048576 < x) := (by omega)
  have q2d : ((1048576 : Int) < x) = False := eq_false (by omega)
  go_wp2
  go_ret
  exact ⟨rfl, hs⟩

set_option maxRecDepth 100000 in
set_option maxHeartbeats 4000000 in
theorem lam_isDirection (p q : Int) (h0 : -4 ≤ p) (h1 : p ≤ 4) (h2 : -4 ≤ q) (h3 : q ≤ 4) (h4 : p ≠ 0 ∨ q ≠ 0) (w : World) :
    Calls Try.prog 91 #[.agg #[.int .i64 p, .int .i64 q]] w (RetV w (.bool true)) := by
  have hs := Below.refl w.heap.size w
  go_enter Try.func91, Try.ntmps91
  go_wp2_with fail
  refine Calls.abs ?_
  intro w1 hW
  have hG : Gr [] w w1 := by rw [hW]; exact (Gr.refl _ _).alloc
  have hbw : Below w.heap.size w w1 := hG.below0 hs.size
  have hk : KeepD w w1 := hG.keep True.intro
  have sz_w1 : w.heap.size ≤ w.heap.size := hs.size
  have Bld : Bx w1 (w.heap.size) 66 #[.int .i64 p, .int .i64 q] := by rw [hW]; exact (Bx.new0 _ _ _)
  replace hs := hs.trans hbw
  clear hW hG hk hbw
  have hz_w1 : w.heap.size < w1.heap.size := Bld.lt
  with_reducible refine (lam_far p (by omega) (by omega) _).mono ?_
  rintro e w2 ⟨rfl, hb⟩
  replace hs := bStep hs hb
  replace Bld := Bld.mono hb
  clear hb
  have cd_0 : w2.cell? ⟨w.heap.size, 0, none⟩ = some (.int .i64 p) := Bld.at 0 rfl
  have cd_1 : w2.cell? ⟨w.heap.size, 1, none⟩ = some (.int .i64 q) := Bld.at 1 rfl
  have Ld : w.heap.size < w2.heap.size := Bld.lt
  go_wp2_with fail
  clear cd_0 cd_1 Ld
  with_reducible refine (lam_far q (by omega) (by omega) _).mono ?_
  rintro e w3 ⟨rfl, hb⟩
  replace hs := bStep hs hb
  replace Bld := Bld.mono hb
  clear hb
  by_cases q1 : p = 0
  · have q1b : (p == 0) = true := beq_iff_eq.2 (by omega)
    have q1n : (p != 0) = false := bne_eq_false_iff_eq.2 (by omega)
    have q1H := Lib.hid q1
    clear q1
    have q2 : ¬ (q = 0) := (by have h := q1H.out; omega)
    have q2b : (q == 0) = false := beq_eq_false_iff_ne.2 (by omega)
    have q2n : (q != 0) = true := bne_iff_ne.2 (by omega)
    have q2H := Lib.hid q2
    clear q2
    have cd_0 : w3.cell? ⟨w.heap.size, 0, none⟩ = some (.int .i64 p) := Bld.at 0 rfl
    have cd_1 : w3.cell? ⟨w.heap.size, 1, none⟩ = some (.int .i64 q) := Bld.at 1 rfl
    have Ld : w.heap.size < w3.heap.size := Bld.lt
    go_wp2
    clear cd_0 cd_1 Ld
    go_ret
    exact ⟨rfl, hs⟩
  · have q1b : (p == 0) = false := beq_eq_false_iff_ne.2 (by omega)
    have q1n : (p != 0) = true := bne_iff_ne.2 (by omega)
    have q1H := Lib.hid q1
    clear q1
    have cd_0 : w3.cell? ⟨w.heap.size, 0, none⟩ = some (.int .i64 p) := Bld.at 0 rfl
    have cd_1 : w3.cell? ⟨w.heap.size, 1, none⟩ = some (.int .i64 q) := Bld.at 1 rfl
    have Ld : w.heap.size < w3.heap.size := Bld.lt
    go_wp2
    clear cd_0 cd_1 Ld
    go_ret
    exact ⟨rfl, hs⟩

set_option maxRecDepth 100000 in
set_option maxHeartbeats 4000000 in
theorem lam_checkPly (p q t : Int) (h0 : -4 ≤ p) (h1 : p ≤ 4) (h2 : -4 ≤ q) (h3 : q ≤ 4) (h4 : p ≠ 0 ∨ q ≠ 0) (h5 : 1 ≤ t) (h6 : t ≤ 128) (w : World) :
    Calls Try.prog 73 #[.agg #[.int .i64 0, .int .i64 p, .int .i64 q, .int .i64 t]] w (RetV w (.int .i64 0)) := by
  have hs := Below.refl w.heap.size w
  go_enter Try.func73, Try.ntmps73
  go_wp2_with fail
  refine Calls.abs ?_
  intro w1 hW
  have hG : Gr [] w w1 := by rw [hW]; exact (Gr.refl _ _).alloc
  have hbw : Below w.heap.size w w1 := hG.below0 hs.size
  have hk : KeepD w w1 := hG.keep True.intro
  have sz_w1 : w.heap.size ≤ w.heap.size := hs.size
  have Blp : Bx w1 (w.heap.size) 68 #[.int .i64 0, .int .i64 p, .int .i64 q, .int .i64 t] := by rw [hW]; exact (Bx.new0 _ _ _)
  replace hs := hs.trans hbw
  clear hW hG hk hbw
  have hz_w1 : w.heap.size < w1.heap.size := Blp.lt
  with_reducible refine (lam_isDirection p q (by omega) (by omega) (by omega) (by omega) (by omega) _).mono ?_
  rintro e w2 ⟨rfl, hb⟩
  replace hs := bStep hs hb
  replace Blp := Blp.mono hb
  clear hb
  have q1 : ¬ (t < 1) := (by omega)
  have q1d : (t < 1) = False := eq_false (by omega)
  have q2 : ¬ (10000 < t) := (by omega)
  have q2d : ((10000 : Int) < t) = False := eq_false (by omega)
  have cp_0 : w2.cell? ⟨w.heap.size, 0, none⟩ = some (.int .i64 0) := Blp.at 0 rfl
  have cp_1 : w2.cell? ⟨w.heap.size, 1, none⟩ = some (.int .i64 p) := Blp.at 1 rfl
  have cp_2 : w2.cell? ⟨w.heap.size, 2, none⟩ = some (.int .i64 q) := Blp.at 2 rfl
  have cp_3 : w2.cell? ⟨w.heap.size, 3, none⟩ = some (.int .i64 t) := Blp.at 3 rfl
  have Lp : w.heap.size < w2.heap.size := Blp.lt
  go_wp2
  clear cp_0 cp_1 cp_2 cp_3 Lp
  go_ret
  exact ⟨rfl, hs⟩

theorem i3_ok {L : List I3} (h : ∀ x ∈ L, PlyOk x) (i : Nat) (hi : i < L.length) : PlyOk (i3At L i) := h _ (List.mem_of_getElem? (i3_some hi))
/-- The sum of the thicknesses of the first k plies. -/
def thk (L : List I3) : Nat → Int
  | 0 => 0
  | k + 1 => thk L k + (i3At L k).2.2
theorem thk_bd {L : List I3} (h : ∀ x ∈ L, PlyOk x) : ∀ k, k ≤ L.length → 0 ≤ thk L k ∧ thk L k ≤ k * 128
  | 0, _ => ⟨Int.le_refl _, by show (0 : Int) ≤ _; omega⟩
  | k + 1, hk => by
    have ih := thk_bd h k (by omega)
    have a := i3_ok h k (by omega)
    unfold PlyOk at a
    show 0 ≤ thk L k + _ ∧ thk L k + _ ≤ _
    omega

set_option maxRecDepth 100000 in
set_option maxHeartbeats 8000000 in
theorem lam_checkPlies (v : Value) (L : List I3) (w : World) (hl : Rows 4 68 PlyC w v L) (h1 : 1 ≤ L.length) (h64 : L.length ≤ 64) (hok : ∀ x ∈ L, PlyOk x) :
    Calls Try.prog 52 #[v] w (RetV w (.int .i64 0)) := by
  obtain ⟨rb, ro, rc, rfl, hc1, hc2, -⟩ := hl.open_ (by omega)
  have HL := Lib.hid hl
  have HOK := Lib.hid hok
  clear hl hok
  have hs := Below.refl w.heap.size w
  go_enter Try.func52, Try.ntmps52
  have q1 : ¬ (L.length < 1) := (by omega)
  have q1d : ((L.length : Int) < 1) = False := eq_false (by omega)
  have q2 : ¬ (64 < L.length) := (by omega)
  have q2d : ((64 : Int) < (L.length : Int)) = False := eq_false (by omega)
  go_wp2
  go_loopw [16] (fun s16 wq => ∃ k : Nat, k ≤ L.length ∧ s16 = .int .i64 k ∧ Below w.heap.size w wq) (fun s16 _ => L.length - (intOf s16).toNat)
  case atStart => exact ⟨0, Nat.zero_le _, rfl, hs⟩
  case round =>
    clear hs
    obtain ⟨k, k_le, rfl, hs⟩ := hrel
    by_cases q3 : k < L.length
    · have q3d : ((k : Int) < (L.length : Int)) = True := eq_true (by omega)
      obtain ⟨Ee40, Ee41, Ee42, Ee43, le4⟩ := rowPly_at (HL.out.mono PlyC.kept hs) (show k < L.length by omega)
      obtain ⟨ie4b, Hie4b⟩ : ∃ z : Int, z = (i3At L k).1 := ⟨_, rfl⟩
      rw [← Hie4b] at Ee41
      replace Hie4b := Lib.hid Hie4b.symm
      obtain ⟨ie4c, Hie4c⟩ : ∃ z : Int, z = (i3At L k).2.1 := ⟨_, rfl⟩
      rw [← Hie4c] at Ee42
      replace Hie4c := Lib.hid Hie4c.symm
      obtain ⟨ie4d, Hie4d⟩ : ∃ z : Int, z = (i3At L k).2.2 := ⟨_, rfl⟩
      rw [← Hie4d] at Ee43
      replace Hie4d := Lib.hid Hie4d.symm
      have HP4 := Lib.hid (i3_ok HOK.out k (by omega))
      unfold PlyOk at HP4
      rw [Hie4b.out, Hie4c.out, Hie4d.out] at HP4
      have bt14 := HP4.out.2.2.2.2.2.1
      have bt24 := HP4.out.2.2.2.2.2.2
      go_wp2_with fail
      clear le4 Ee40 Ee41 Ee42 Ee43
      refine Calls.abs ?_
      intro w21 hW
      have hG : Gr [] wr w21 := by rw [hW]; exact (Gr.refl _ _).alloc
      have hbw : Below w.heap.size wr w21 := hG.below0 hs.size
      have hk : KeepD wr w21 := hG.keep True.intro
      have sz_w21 : w.heap.size ≤ wr.heap.size := hs.size
      have Blp : Bx w21 (wr.heap.size) 68 #[.int .i64 0, .int .i64 ie4b, .int .i64 ie4c, .int .i64 ie4d] := by rw [hW]; exact (Bx.new0 _ _ _)
      replace hs := hs.trans hbw
      clear hW hG hk hbw
      have hz_w21 : wr.heap.size < w21.heap.size := Blp.lt
      with_reducible refine (lam_checkPly ie4b ie4c ie4d HP4.out.1 HP4.out.2.1 HP4.out.2.2.1 HP4.out.2.2.2.1 HP4.out.2.2.2.2.1 HP4.out.2.2.2.2.2.1 HP4.out.2.2.2.2.2.2 _).mono ?_
      rintro e w22 ⟨rfl, hb⟩
      replace hs := bStep hs hb
      replace Blp := Blp.mono hb
      clear hb
      go_wp2
      go_roundw
      case rel => exact ⟨k + 1, by omega, by go_num, hs⟩
      all_goals first | (simp [intOf]; done) | (simp [intOf]; omega)
    · have q3d : ((k : Int) < (L.length : Int)) = False := eq_false (by omega)
      go_wp2
      go_ret
      exact ⟨rfl, hs⟩

set_option maxRecDepth 100000 in
set_option maxHeartbeats 8000000 in
theorem lam_thickness (v : Value) (L : List I3) (w : World) (hl : Rows 4 68 PlyC w v L) (h1 : 1 ≤ L.length) (h64 : L.length ≤ 64) (hok : ∀ x ∈ L, PlyOk x) :
    Calls Try.prog 53 #[v] w (RetV w (.int .i64 (thk L L.length))) := by
  obtain ⟨rb, ro, rc, rfl, hc1, hc2, -⟩ := hl.open_ (by omega)
  have HL := Lib.hid hl
  have HOK := Lib.hid hok
  clear hl hok
  have hs := Below.refl w.heap.size w
  go_enter Try.func53, Try.ntmps53
  go_wp2
  go_loopw [3, 8] (fun s3 s8 wq => ∃ k : Nat, k ≤ L.length ∧ s8 = .int .i64 k ∧ s3 = .int .i64 (thk L k) ∧ Below w.heap.size w wq) (fun s3 s8 _ => L.length - (intOf s8).toNat)
  case atStart => exact ⟨0, Nat.zero_le _, rfl, rfl, hs⟩
  case round =>
    clear hs
    obtain ⟨k, k_le, rfl, rfl, hs⟩ := hrel
    obtain ⟨tb1, tb2⟩ := thk_bd HOK.out k k_le
    obtain ⟨tk, HTK⟩ : ∃ x, x = thk L k := ⟨_, rfl⟩
    rw [← HTK]
    rw [← HTK] at tb1 tb2
    replace HTK := Lib.hid HTK.symm
    by_cases q1 : k < L.length
    · have q1d : ((k : Int) < (L.length : Int)) = True := eq_true (by omega)
      obtain ⟨Ee20, Ee21, Ee22, Ee23, le2⟩ := rowPly_at (HL.out.mono PlyC.kept hs) (show k < L.length by omega)
      obtain ⟨ie2b, Hie2b⟩ : ∃ z : Int, z = (i3At L k).1 := ⟨_, rfl⟩
      rw [← Hie2b] at Ee21
      replace Hie2b := Lib.hid Hie2b.symm
      obtain ⟨ie2c, Hie2c⟩ : ∃ z : Int, z = (i3At L k).2.1 := ⟨_, rfl⟩
      rw [← Hie2c] at Ee22
      replace Hie2c := Lib.hid Hie2c.symm
      obtain ⟨ie2d, Hie2d⟩ : ∃ z : Int, z = (i3At L k).2.2 := ⟨_, rfl⟩
      rw [← Hie2d] at Ee23
      replace Hie2d := Lib.hid Hie2d.symm
      have HP2 := Lib.hid (i3_ok HOK.out k (by omega))
      unfold PlyOk at HP2
      rw [Hie2b.out, Hie2c.out, Hie2d.out] at HP2
      have bt12 := HP2.out.2.2.2.2.2.1
      have bt22 := HP2.out.2.2.2.2.2.2
      have AWq3 := IntWalk.i64_in (tk + ie2d) (by omega)
      go_upto_region 6 with fail
      clear le2 Ee20 Ee21 Ee22 Ee23
      refine Code.abs ?_
      intro w21 hW
      have hG : Gr [] wr w21 := by rw [hW]; exact (Gr.refl _ _).alloc
      have hbw : Below w.heap.size wr w21 := hG.below0 hs.size
      have hk : KeepD wr w21 := hG.keep True.intro
      have sz_w21 : w.heap.size ≤ wr.heap.size := hs.size
      have Blp : Bx w21 (wr.heap.size) 68 #[.int .i64 0, .int .i64 ie2b, .int .i64 ie2c, .int .i64 ie2d] := by rw [hW]; exact (Bx.new0 _ _ _)
      replace hs := hs.trans hbw
      clear hW hG hk hbw
      have hz_w21 : wr.heap.size < w21.heap.size := Blp.lt
      have AWq4 := IntWalk.i64_in ((k : Int) + 1) (by omega)
      go_wp2
      go_roundw
      case rel => exact ⟨k + 1, by omega, by go_num, by rw [← HTK.out, ← Hie2d.out]; rfl, hs⟩
      all_goals first | (simp [intOf]; done) | (simp [intOf]; omega)
    · have q1d : ((k : Int) < (L.length : Int)) = False := eq_false (by omega)
      obtain rfl : k = L.length := by omega
      go_wp2
      go_ret
      exact ⟨by rw [HTK.out]; rfl, hs⟩

set_option maxRecDepth 100000 in
set_option maxHeartbeats 8000000 in
theorem lam_Thickness (v : Value) (L : List I3) (w : World) (hl : Rows 4 68 PlyC w v L) (h1 : 1 ≤ L.length) (h64 : L.length ≤ 64) (hok : ∀ x ∈ L, PlyOk x) :
    Calls Try.prog 27 #[v] w (Ret2 (fun _ v => v = .int .i64 (thk L L.length)) (fun _ v => v = .int .i64 0) w) := by
  obtain ⟨rb, ro, rc, rfl, hc1, hc2, -⟩ := hl.open_ (by omega)
  have HL := Lib.hid hl
  have HOK := Lib.hid hok
  clear hl hok
  have hs := Below.refl w.heap.size w
  go_enter Try.func27, Try.ntmps27
  go_wp2_with fail
  with_reducible refine (lam_checkPlies _ L _ (HL.out.mono PlyC.kept hs) (by omega) (by omega) HOK.out).mono ?_
  rintro e w1 ⟨rfl, hb⟩
  replace hs := bStep hs hb
  clear hb
  go_wp2_with fail
  with_reducible refine (lam_thickness _ L _ (HL.out.mono PlyC.kept hs) (by omega) (by omega) HOK.out).mono ?_
  rintro e w2 ⟨rfl, hb⟩
  replace hs := bStep hs hb
  clear hb
  go_wp2
  go_ret2
  exact ⟨_, _, rfl, rfl, rfl, hs⟩

/-- The plies of the first k. -/
def plyT (l : List I3) (k : Nat) : List I3 := (l.take k).map plyF
theorem plyT_len {l : List I3} {k : Nat} (h : k ≤ l.length) : (plyT l k).length = k := by unfold plyT; rw [List.length_map, List.length_take]; omega
theorem plyT_all (l : List I3) : plyT l l.length = l.map plyF := by unfold plyT; rw [List.take_length]
theorem plyF_take {l : List I3} {k : Nat} (hk : k < l.length) {P Q T : Int} (h : plyF (i3At l k) = (P, Q, T)) : plyT l (k + 1) = plyT l k ++ [(P, Q, T)] := by
  unfold plyT
  rw [List.take_add_one, List.getElem?_eq_getElem hk, List.map_append, ← h]
  have e : l[k] = i3At l k := by unfold i3At; rw [List.getD_eq_getElem?_getD, List.getElem?_eq_getElem hk]; rfl
  rw [e]; rfl

set_option maxRecDepth 100000 in
set_option maxHeartbeats 8000000 in
theorem top_laid (v : Value) (L : List I3) (w : World) (hl : RowsI 3 I3C w v L) (h1 : 1 ≤ L.length) (h64 : L.length ≤ 64) (hi8 : ∀ x ∈ L, -128 ≤ x.1 ∧ x.1 ≤ 127 ∧ -128 ≤ x.2.1 ∧ x.2.1 ≤ 127 ∧ -128 ≤ x.2.2 ∧ x.2.2 ≤ 127) :
    Calls Try.prog 25 #[v] w (Ret1 (fun w v => Rows 4 68 PlyC w v (L.map plyF)) w) := by
  obtain ⟨rb, ro, rc, rfl, hc1, hc2⟩ := hl.open_ (by omega)
  have HL := Lib.hid hl
  have HI := Lib.hid hi8
  obtain ⟨i0, hi, hz0, hz1, hz2⟩ := info_parts ply_info
  clear hl hi8
  have hs := Below.refl w.heap.size w
  go_enter Try.func25, Try.ntmps25
  go_wp2
  go_loopw [3, 9] (fun s3 s9 wq => ∃ k : Nat, k ≤ L.length ∧ s9 = .int .i64 k ∧ Below w.heap.size w wq ∧ OwnR w.heap.size 68 4 PlyC wq s3 (plyT L k)) (fun s3 s9 _ => L.length - (intOf s9).toNat)
  case atStart => exact ⟨0, Nat.zero_le _, rfl, hs, OwnR.nil _ _ _ _ _⟩
  case round =>
    clear hs
    obtain ⟨k, k_le, rfl, hs, Opc⟩ := hrel
    have lpt : (plyT L k).length ≤ k := Nat.le_of_eq (plyT_len k_le)
    by_cases q1 : k < L.length
    · have q1d : ((k : Int) < (L.length : Int)) = True := eq_true (by omega)
      obtain ⟨Ee20, Ee21, Ee22, le2⟩ := rowI3_at (HL.out.mono I3C.kept hs) (show k < L.length by omega)
      obtain ⟨ie2a, Hie2a⟩ : ∃ z : Int, z = (i3At L k).1 := ⟨_, rfl⟩
      rw [← Hie2a] at Ee20
      replace Hie2a := Lib.hid Hie2a.symm
      obtain ⟨ie2b, Hie2b⟩ : ∃ z : Int, z = (i3At L k).2.1 := ⟨_, rfl⟩
      rw [← Hie2b] at Ee21
      replace Hie2b := Lib.hid Hie2b.symm
      obtain ⟨ie2c, Hie2c⟩ : ∃ z : Int, z = (i3At L k).2.2 := ⟨_, rfl⟩
      rw [← Hie2c] at Ee22
      replace Hie2c := Lib.hid Hie2c.symm
      obtain ⟨BA2, BB2, BC2, BD2, BE2, BF2⟩ := HI.out _ (List.mem_of_getElem? (i3_some (show k < L.length by omega)))
      simp only [Hie2a.out, Hie2b.out, Hie2c.out] at BA2 BB2 BC2 BD2 BE2 BF2
      obtain ⟨rie2a, Hrie2a⟩ : ∃ z : Int, ie2a.tmod 5 = z := ⟨_, rfl⟩
      have brie2a := tm5 ie2a
      rw [Hrie2a] at brie2a
      obtain ⟨brie2a1, brie2a2⟩ := brie2a
      have Krie2a := Lib.hid Hrie2a
      obtain ⟨rie2b, Hrie2b⟩ : ∃ z : Int, ie2b.tmod 5 = z := ⟨_, rfl⟩
      have brie2b := tm5 ie2b
      rw [Hrie2b] at brie2b
      obtain ⟨brie2b1, brie2b2⟩ := brie2b
      have Krie2b := Lib.hid Hrie2b
      by_cases q3 : rie2a = 0
      · have q3b : (rie2a == 0) = true := beq_iff_eq.2 (by omega)
        have q3n : (rie2a != 0) = false := bne_eq_false_iff_eq.2 (by omega)
        have q3H := Lib.hid q3
        clear q3
        by_cases q4 : rie2b = 0
        · have q4b : (rie2b == 0) = true := beq_iff_eq.2 (by omega)
          have q4n : (rie2b != 0) = false := bne_eq_false_iff_eq.2 (by omega)
          have q4H := Lib.hid q4
          clear q4
          go_wp2_with (at_builtin; refine wpList.stop ?_)
          refine ⟨?_⟩
          clear le2 Ee20 Ee21 Ee22
          refine wpList.abs ?_
          intro w21 hW
          have hG : Gr [] wr w21 := by rw [hW]; exact (Gr.refl _ _).alloc.alloc.alloc
          have hbw : Below w.heap.size wr w21 := hG.below0 hs.size
          have hk : KeepD wr w21 := hG.keep True.intro
          have sz_w21 : w.heap.size ≤ wr.heap.size := hs.size
          have Blx : Bx w21 (wr.heap.size) 111 #[.int .i8 ie2a, .int .i8 ie2b, .int .i8 ie2c] := by rw [hW]; exact (((Bx.new0 _ _ _).alloc _).alloc _)
          have Blp : Bx w21 (wr.heap.size + 1) 68 #[.int .i64 0, .int .i64 1, .int .i64 rie2b, .int .i64 (1 + (max ie2c 0))] := by rw [hW]; exact ((Bx.new0 _ _ _).alloc _)
          have Blls : Bx w21 (wr.heap.size + 1 + 1) 68 #[.int .i64 0, .int .i64 1, .int .i64 rie2b, .int .i64 (1 + (max ie2c 0))] := by rw [hW]; exact (Bx.new0 _ _ _)
          have Ap_pc_p := Opc.ap (g := wr.heap.size + 1) (by omega)
          replace hs := hs.trans hbw
          replace Opc := Opc.mono PlyC.kept (hG.below0 (Nat.le_refl _))
          clear hW hG hk hbw
          have hz_w21 : wr.heap.size + 1 + 1 < w21.heap.size := Blls.lt
          obtain ⟨css, ho1, ho2, ho3, hown0⟩ := Opc
          refine wpList_append_lies _ rfl _ _ _ rfl w.heap.size 68 i0 _ 4 32 Try.underlying62 hi hz0 hz1 hz2 rfl (by omega) _ _ css.flatten rfl hown0 ⟨wr.heap.size + 1 + 1, 0, none⟩ 1 1 [.int .i64 0, .int .i64 1, .int .i64 rie2b, .int .i64 (1 + (max ie2c 0))] rfl rfl Blls.news ?_ (by omega) ?_ ?_ ?_ _ rfl ?_
          · intro u hu; simp only [List.mem_cons, List.mem_nil_iff, or_false] at hu; rcases hu with rfl | rfl | rfl | rfl <;> rfl
          · unfold maxLen; (try simp only [List.length_append, List.length_cons, List.length_nil]); omega
          · (try simp only [List.length_append, List.length_cons, List.length_nil]); omega
          · exact hs.size
          intro gpc cappc w22 hown1 hgrow hat hlt_
          have hk_ := KeepD.owns hown0 hgrow (by decide)
          have ho := owns_onlyT hown0 hgrow
          replace hs := hs.grown hgrow hs.size (fun k hk => (hown0.lt k hk).1)
          replace Opc := OwnR.push' PlyC.kept ho1 ho2 ho3 (x := ( 1,  rie2b,  (1 + (max ie2c 0)))) rfl rfl (by simp) hown1 hk_
          replace Blx := Blx.only ho (by decide)
          have Ap_pc_p1 := Ap_pc_p.app hat Blp.lt
          replace Blp := Blp.grown hgrow Ap_pc_p.ne
          replace Ap_pc_p := Ap_pc_p1
          clear Ap_pc_p1
          clear hk_ ho ho1 ho2 ho3 hown0 hown1 hgrow hat hlt_ Blls
          go_wp2
          go_roundw
          case rel => exact ⟨k + 1, by omega, by go_num, hs, by rw [plyF_take (P := 1) (Q := rie2b) (T := 1 + max ie2c 0) (show k < L.length by omega) (by unfold plyF; rw [Hie2a.out, Hie2b.out, Hie2c.out, Krie2a.out, Krie2b.out, if_pos ⟨q3H.out, q4H.out⟩])]; exact Opc⟩
          all_goals first | (simp [intOf]; done) | (simp [intOf]; omega)
        · have q4b : (rie2b == 0) = false := beq_eq_false_iff_ne.2 (by omega)
          have q4n : (rie2b != 0) = true := bne_iff_ne.2 (by omega)
          have q4H := Lib.hid q4
          clear q4
          go_wp2_with (at_builtin; refine wpList.stop ?_)
          refine ⟨?_⟩
          clear le2 Ee20 Ee21 Ee22
          refine wpList.abs ?_
          intro w21 hW
          have hG : Gr [] wr w21 := by rw [hW]; exact (Gr.refl _ _).alloc.alloc.alloc
          have hbw : Below w.heap.size wr w21 := hG.below0 hs.size
          have hk : KeepD wr w21 := hG.keep True.intro
          have sz_w21 : w.heap.size ≤ wr.heap.size := hs.size
          have Blx : Bx w21 (wr.heap.size) 111 #[.int .i8 ie2a, .int .i8 ie2b, .int .i8 ie2c] := by rw [hW]; exact (((Bx.new0 _ _ _).alloc _).alloc _)
          have Blp : Bx w21 (wr.heap.size + 1) 68 #[.int .i64 0, .int .i64 rie2a, .int .i64 rie2b, .int .i64 (1 + (max ie2c 0))] := by rw [hW]; exact ((Bx.new0 _ _ _).alloc _)
          have Blls : Bx w21 (wr.heap.size + 1 + 1) 68 #[.int .i64 0, .int .i64 rie2a, .int .i64 rie2b, .int .i64 (1 + (max ie2c 0))] := by rw [hW]; exact (Bx.new0 _ _ _)
          have Ap_pc_p := Opc.ap (g := wr.heap.size + 1) (by omega)
          replace hs := hs.trans hbw
          replace Opc := Opc.mono PlyC.kept (hG.below0 (Nat.le_refl _))
          clear hW hG hk hbw
          have hz_w21 : wr.heap.size + 1 + 1 < w21.heap.size := Blls.lt
          obtain ⟨css, ho1, ho2, ho3, hown0⟩ := Opc
          refine wpList_append_lies _ rfl _ _ _ rfl w.heap.size 68 i0 _ 4 32 Try.underlying62 hi hz0 hz1 hz2 rfl (by omega) _ _ css.flatten rfl hown0 ⟨wr.heap.size + 1 + 1, 0, none⟩ 1 1 [.int .i64 0, .int .i64 rie2a, .int .i64 rie2b, .int .i64 (1 + (max ie2c 0))] rfl rfl Blls.news ?_ (by omega) ?_ ?_ ?_ _ rfl ?_
          · intro u hu; simp only [List.mem_cons, List.mem_nil_iff, or_false] at hu; rcases hu with rfl | rfl | rfl | rfl <;> rfl
          · unfold maxLen; (try simp only [List.length_append, List.length_cons, List.length_nil]); omega
          · (try simp only [List.length_append, List.length_cons, List.length_nil]); omega
          · exact hs.size
          intro gpc cappc w22 hown1 hgrow hat hlt_
          have hk_ := KeepD.owns hown0 hgrow (by decide)
          have ho := owns_onlyT hown0 hgrow
          replace hs := hs.grown hgrow hs.size (fun k hk => (hown0.lt k hk).1)
          replace Opc := OwnR.push' PlyC.kept ho1 ho2 ho3 (x := ( rie2a,  rie2b,  (1 + (max ie2c 0)))) rfl rfl (by simp) hown1 hk_
          replace Blx := Blx.only ho (by decide)
          have Ap_pc_p1 := Ap_pc_p.app hat Blp.lt
          replace Blp := Blp.grown hgrow Ap_pc_p.ne
          replace Ap_pc_p := Ap_pc_p1
          clear Ap_pc_p1
          clear hk_ ho ho1 ho2 ho3 hown0 hown1 hgrow hat hlt_ Blls
          go_wp2
          go_roundw
          case rel => exact ⟨k + 1, by omega, by go_num, hs, by rw [plyF_take (P := rie2a) (Q := rie2b) (T := 1 + max ie2c 0) (show k < L.length by omega) (by unfold plyF; rw [Hie2a.out, Hie2b.out, Hie2c.out, Krie2a.out, Krie2b.out, if_neg (fun h => q4H.out h.2)])]; exact Opc⟩
          all_goals first | (simp [intOf]; done) | (simp [intOf]; omega)
      · have q3b : (rie2a == 0) = false := beq_eq_false_iff_ne.2 (by omega)
        have q3n : (rie2a != 0) = true := bne_iff_ne.2 (by omega)
        have q3H := Lib.hid q3
        clear q3
        go_wp2_with (at_builtin; refine wpList.stop ?_)
        refine ⟨?_⟩
        clear le2 Ee20 Ee21 Ee22
        refine wpList.abs ?_
        intro w21 hW
        have hG : Gr [] wr w21 := by rw [hW]; exact (Gr.refl _ _).alloc.alloc.alloc
        have hbw : Below w.heap.size wr w21 := hG.below0 hs.size
        have hk : KeepD wr w21 := hG.keep True.intro
        have sz_w21 : w.heap.size ≤ wr.heap.size := hs.size
        have Blx : Bx w21 (wr.heap.size) 111 #[.int .i8 ie2a, .int .i8 ie2b, .int .i8 ie2c] := by rw [hW]; exact (((Bx.new0 _ _ _).alloc _).alloc _)
        have Blp : Bx w21 (wr.heap.size + 1) 68 #[.int .i64 0, .int .i64 rie2a, .int .i64 rie2b, .int .i64 (1 + (max ie2c 0))] := by rw [hW]; exact ((Bx.new0 _ _ _).alloc _)
        have Blls : Bx w21 (wr.heap.size + 1 + 1) 68 #[.int .i64 0, .int .i64 rie2a, .int .i64 rie2b, .int .i64 (1 + (max ie2c 0))] := by rw [hW]; exact (Bx.new0 _ _ _)
        have Ap_pc_p := Opc.ap (g := wr.heap.size + 1) (by omega)
        replace hs := hs.trans hbw
        replace Opc := Opc.mono PlyC.kept (hG.below0 (Nat.le_refl _))
        clear hW hG hk hbw
        have hz_w21 : wr.heap.size + 1 + 1 < w21.heap.size := Blls.lt
        obtain ⟨css, ho1, ho2, ho3, hown0⟩ := Opc
        refine wpList_append_lies _ rfl _ _ _ rfl w.heap.size 68 i0 _ 4 32 Try.underlying62 hi hz0 hz1 hz2 rfl (by omega) _ _ css.flatten rfl hown0 ⟨wr.heap.size + 1 + 1, 0, none⟩ 1 1 [.int .i64 0, .int .i64 rie2a, .int .i64 rie2b, .int .i64 (1 + (max ie2c 0))] rfl rfl Blls.news ?_ (by omega) ?_ ?_ ?_ _ rfl ?_
        · intro u hu; simp only [List.mem_cons, List.mem_nil_iff, or_false] at hu; rcases hu with rfl | rfl | rfl | rfl <;> rfl
        · unfold maxLen; (try simp only [List.length_append, List.length_cons, List.length_nil]); omega
        · (try simp only [List.length_append, List.length_cons, List.length_nil]); omega
        · exact hs.size
        intro gpc cappc w22 hown1 hgrow hat hlt_
        have hk_ := KeepD.owns hown0 hgrow (by decide)
        have ho := owns_onlyT hown0 hgrow
        replace hs := hs.grown hgrow hs.size (fun k hk => (hown0.lt k hk).1)
        replace Opc := OwnR.push' PlyC.kept ho1 ho2 ho3 (x := ( rie2a,  rie2b,  (1 + (max ie2c 0)))) rfl rfl (by simp) hown1 hk_
        replace Blx := Blx.only ho (by decide)
        have Ap_pc_p1 := Ap_pc_p.app hat Blp.lt
        replace Blp := Blp.grown hgrow Ap_pc_p.ne
        replace Ap_pc_p := Ap_pc_p1
        clear Ap_pc_p1
        clear hk_ ho ho1 ho2 ho3 hown0 hown1 hgrow hat hlt_ Blls
        go_wp2
        go_roundw
        case rel => exact ⟨k + 1, by omega, by go_num, hs, by rw [plyF_take (P := rie2a) (Q := rie2b) (T := 1 + max ie2c 0) (show k < L.length by omega) (by unfold plyF; rw [Hie2a.out, Hie2b.out, Hie2c.out, Krie2a.out, Krie2b.out, if_neg (fun h => q3H.out h.1)])]; exact Opc⟩
        all_goals first | (simp [intOf]; done) | (simp [intOf]; omega)
    · have q1d : ((k : Int) < (L.length : Int)) = False := eq_false (by omega)
      obtain rfl : k = L.length := by omega
      have hP := Opc.rows
      rw [plyT_all] at hP
      clear Opc
      have HPL := Lib.hid hP
      clear hP
      go_wp2
      go_ret
      exact ⟨_, rfl, HPL.out, hs⟩

end Go.Proofs.Ytlfnapfnpkhggaa
