/-
  Law 07: span: a range of plain data, the program's and the reference's one.
-/
import Derived.Test.YtkfekkhhfpkfaaaGreatPkRangeHG
import Derived.Test.YtkfekkhhfpkfaaaGreatPkRangeG
import Derived.Test.YtkfekkhhfpkfaaaGreatPkLawG
import Derived.Test.YtkfekkhhfpkfaaaGreatPkHeldG
import Derived.Test.YtkfekkhhfpkfaaaGreatPkGrG
set_option linter.unusedSimpArgs false
set_option linter.unusedVariables false
set_option maxRecDepth 100000
set_option maxHeartbeats 16000000
namespace Go.Proofs.YtkfekkhhfpkfaaaGreat
open Go.RowKit Dg
attribute [local go_sem ↓] Go.wp_at_zero Go.wp_at_succ
end Go.Proofs.YtkfekkhhfpkfaaaGreat
namespace Go.Proofs.YtkfekkhhfpkfaaaGreat
open Go.RowKit Dg
attribute [local go_sem ↓] Go.wp_at_zero Go.wp_at_succ
theorem numR_info : (Tryz.prog.info? 38).map (fun i => (i.zero, i.size, i.bytes)) = some (some (.agg #[.bool false, .slice none 0 0, .slice none 0 0]), 3, 56) := by kernel_rfl
theorem numP_info : (Tryz.prog.info? 32).map (fun i => (i.zero, i.size, i.bytes)) = some (some (.agg #[.bool false, .slice none 0 0, .slice none 0 0]), 3, 56) := by kernel_rfl
def frF (x : Int × Int) : Rat := fracQ x.1 x.2
theorem l7_numbers (v : Value) (l : List (Int × Int)) (w : World) (hl : RowsI 2 FC w v l) (h20 : l.length ≤ 20) (hok : ∀ x ∈ l, DOk x) :
  Calls Tryz.prog 9 #[v] w (Ret2 (fun w v => Rows 3 32 PC w v (l.map frF)) (fun w v => Rows 3 38 RC w v (l.map frF)) w) := by
 obtain ⟨ao, cap, rfl, hc1, hc2, hc3⟩ := hl.slice
 have hs := Below.refl w.heap.size w
 have HL := Lib.hid hl
 have HOK := Lib.hid hok
 obtain ⟨i0, hi, hz0, hz1, hz2⟩ := info_parts numP_info
 obtain ⟨j0, hj, hy0, hy1, hy2⟩ := info_parts numR_info
 clear hl hok
 go_enter Tryz.func9, Tryz.ntmps9
 go_wp2
 go_loopw [4, 5, 10] (fun av bv iv wq => ∃ k : Nat, k ≤ l.length ∧ iv = .int .i64 k ∧ Below w.heap.size w wq ∧ OwnR w.heap.size 32 3 PC wq av ((l.take k).map frF) ∧ OwnR w.heap.size 38 3 RC wq bv ((l.take k).map frF)) (fun _ _ iv _ => l.length - (intOf iv).toNat)
 case atStart => exact ⟨0, Nat.zero_le _, rfl, hs, OwnR.nil _ _ _ _ _, OwnR.nil _ _ _ _ _⟩
 case round =>
  obtain ⟨k, hk, rfl, hs, B3, B4⟩ := hrel
  by_cases hlt : k < l.length
  ·obtain ⟨⟨n1, d1⟩, hx⟩ : ∃ x, l[k]? = some x := ⟨_, List.getElem?_eq_getElem hlt⟩
   obtain ⟨b, o, c, cs, hv, hlen, Bc, rfl⟩ := (HL.out.mono FC.kept hs).get hx
   obtain ⟨rfl, rfl⟩ := sliceE hv
   obtain ⟨a1, a2, a3, a4⟩ := HOK.out _ (List.mem_of_getElem? hx)
   have e0 := Bc 0 _ rfl
   have e1 := Bc 1 _ rfl
   clear Bc
   simp only [Nat.add_zero] at e0
   have HM := Lib.hid (map_take frF l k _ hx)
   have hlm : ((l.take k).map frF).length = k := by rw [List.length_map, List.length_take]; omega
   clear hx hv hlen
   dsimp only at e0 e1 a1 a2 a3 a4
   go_upto_region 6 with fail
   clear e0 e1
   refine Code.abs ?_
   intro B9 hW
   have hsz := hs.size
   have hbw : Below w.heap.size wr B9 := by rw [hW]; exact (Below.alloc (Below.refl w.heap.size wr) (by first | exact hs.size | (have := hs.size; simp; done) | (have := hs.size; simp; omega)) _)
   have hs1 : Below w.heap.size w B9 := hs.trans hbw
   have hk : KeepD wr B9 := by rw [hW]; exact ((KeepD.refl _).alloc _)
   have hb1 : Below wr.heap.size wr B9 := by rw [hW]; exact (Below.alloc (Below.refl _ _) (by first | exact Nat.le_refl _ | (simp; done) | (simp; omega)) _)
   have Bh : Bx B9 (wr.heap.size) 67 #[.int .i64 n1, .int .i64 d1] := by rw [hW]; exact (Bx.new' _ _ _ _ (by first | rfl | (simp; done)))
   replace hs := hs1
   clear hs1
   have B2 := Bh
   clear Bh
   replace B3 := B3.mono PC.kept hb1
   replace B4 := B4.mono RC.kept hb1
   clear hb1
   clear hW hk hsz hbw
   have hz_w21 := B2.lt
   refine U_region (S := fun w' => w'.cell? ⟨wr.heap.size, 0, none⟩ = some (.int .i64 n1) ∧ w'.cell? ⟨wr.heap.size, 1, none⟩ = some (.int .i64 d1)) (by kernel_rfl) 11 ?_
   refine AnyU.abs ?_
   intro Bg hW
   have hb : Below B9.heap.size B9 Bg := by rw [hW]; exact bDrew _
   replace hs := bStep hs hb
   replace B2 := B2.mono hb
   replace B3 := B3.mono PC.kept hb
   replace B4 := B4.mono RC.kept hb
   clear hb hW
   have B0 := B2.a0
   have B1 := B2.a1
   have hH := (show Bg.cell? ⟨wr.heap.size, 0, none⟩ = some (.int .i64 n1) ∧ Bg.cell? ⟨wr.heap.size, 1, none⟩ = some (.int .i64 d1) from ⟨B0, B1⟩)
   refine U_take (i := 0) (v := ?_) rfl (by kernel_rfl) (by kernel_rfl) (by kernel_rfl) (by kernel_rfl) (fun _ _ _ h => h) (Or.inl ⟨by rfl, ?_⟩) hH ?_
   rotate_left
   ·intro w B7
    try dsimp only at B7
    go_simp
    try with_reducible rfl
   try simp only [Act.put, List.setIfInBounds_toArray, List.set_cons_zero, List.set_cons_succ]
   refine U_take (i := 1) (v := ?_) rfl (by kernel_rfl) (by kernel_rfl) (by kernel_rfl) (by kernel_rfl) (fun _ _ _ h => h) (Or.inl ⟨by rfl, ?_⟩) hH ?_
   rotate_left
   ·intro w B7
    try dsimp only at B7
    go_simp
    try with_reducible rfl
   try simp only [Act.put, List.setIfInBounds_toArray, List.set_cons_zero, List.set_cons_succ]
   refine U_take (i := 5) (v := ?_) rfl (by kernel_rfl) (by kernel_rfl) (by kernel_rfl) (by kernel_rfl) (fun _ _ _ h => h) (Or.inl ⟨by rfl, ?_⟩) hH ?_
   rotate_left
   ·intro w B7
    try dsimp only at B7
    go_simp
    try with_reducible rfl
   try simp only [Act.put, List.setIfInBounds_toArray, List.set_cons_zero, List.set_cons_succ]
   refine U_take (i := 6) (v := ?_) rfl (by kernel_rfl) (by kernel_rfl) (by kernel_rfl) (by kernel_rfl) (fun _ _ _ h => h) (Or.inl ⟨by rfl, ?_⟩) hH ?_
   rotate_left
   ·intro w B7
    try dsimp only at B7
    go_simp
    try with_reducible rfl
   try simp only [Act.put, List.setIfInBounds_toArray, List.set_cons_zero, List.set_cons_succ]
   clear hH
   refine U_one (i := 2) (by kernel_rfl) rfl (fun K hK => ?_)
   go_simp
   (with_reducible refine (l7_of n1 d1 _ a1 a2 a3 a4).mono ?_)
   rintro e Ba ⟨_, rfl, hp, hb⟩
   obtain ⟨shp, ahp, nhp, chp, Ahp, Nhp, Chp, rfl⟩ := hp.shape
   replace hs := bStep hs hb
   replace B2 := B2.mono hb
   replace B3 := B3.mono PC.kept hb
   replace B4 := B4.mono RC.kept hb
   replace B0 := cellK B0 hb
   replace B1 := cellK B1 hb
   clear hb
   try go_wp2_with fail
   refine hK.out _ _ ⟨B0, B1⟩ (fun hH => ?_)
   clear hK K
   try simp only [Act.put, List.setIfInBounds_toArray, List.set_cons_zero, List.set_cons_succ]
   clear hH
   refine U_one (i := 3) (by kernel_rfl) rfl (fun K hK => ?_)
   go_simp
   generalize hWn : (Ba.alloc (.cells #[.bool shp, .slice ahp nhp chp, .slice Ahp Nhp Chp] 32)) = w24
   have hb : Below Ba.heap.size Ba w24 := by rw [← hWn]; exact (Below.refl _ _).alloc (Nat.le_refl _) _
   have Ble : Bx w24 (Ba.heap.size) 32 #[.bool shp, .slice ahp nhp chp, .slice Ahp Nhp Chp] := by rw [← hWn]; exact Bx.new _ _ _
   have nx_e : wr.heap.size ≠ Ba.heap.size := by have := B2.lt; omega
   have sz_e : w.heap.size ≤ Ba.heap.size := hs.size
   replace hs := bStep hs hb
   replace B2 := B2.mono hb
   replace hp := hp.mono hb
   replace B3 := B3.mono PC.kept hb
   replace B4 := B4.mono RC.kept hb
   replace B0 := cellK B0 hb
   replace B1 := cellK B1 hb
   clear hb hWn
   refine hK.out _ _ ⟨B0, B1⟩ (fun hH => ?_)
   clear hK K
   try simp only [Act.put, List.setIfInBounds_toArray, List.set_cons_zero, List.set_cons_succ]
   clear hH
   refine U_one (i := 4) (by kernel_rfl) rfl (fun K hK => ?_)
   obtain ⟨css, Bd, Be, Bf, B5⟩ := B3
   simp only [List.getElem_toArray, List.getElem_cons_succ, List.getElem_cons_zero]
   rw [if_pos (by rfl)]
   refine wp_append_lies _ _ _ _ (by rfl) w.heap.size 32 i0 _ 3 56 Tryz.underlying25 hi hz0 hz1 hz2 (by rfl) (by omega) _ _ css.flatten (by rfl) B5 ⟨Ba.heap.size, 0, none⟩ 1 1 [.bool shp, .slice ahp nhp chp, .slice Ahp Nhp Chp] (by rfl) (by rfl) Ble.news ?_ (by omega) ?_ ?_ ?_ _ rfl ?_
   ·intro u hu; simp only [List.mem_cons, List.mem_nil_iff, or_false] at hu; rcases hu with rfl | rfl | rfl <;> rfl
   ·unfold maxLen; omega
   ·omega
   ·exact hs.size
   intro gpa cappa w25 B8 B6 Bc hlt
   have hk := KeepD.owns B5 B6 (by decide)
   have ho := owns_onlyT B5 B6
   replace hs := hs.grown B6 hs.size (fun k hk => (B5.lt k hk).1)
   replace B3 := OwnR.push PC.kept Bd Be Bf (x := (frF (n1, d1))) rfl ⟨_, _, _, rfl, hp⟩ B8 hk
   replace B2 := B2.only ho (by decide)
   replace hp := hp.keep hk
   replace B4 := B4.onlyT RC.kept ho (by decide) (by decide)
   replace B0 := B2.at 0 rfl
   replace B1 := B2.at 1 rfl
   clear hk ho Bd Be Bf B5 B8 B6 Ble
   refine hK.out _ _ ⟨B0, B1⟩ (fun hH => ?_)
   clear hK K
   try simp only [Act.put, List.setIfInBounds_toArray, List.set_cons_zero, List.set_cons_succ]
   clear hH
   refine U_one (i := 7) (by kernel_rfl) rfl (fun K hK => ?_)
   go_simp
   (with_reducible refine (r_Of_calls n1 d1 _ a1 a2 a3 a4).mono ?_)
   rintro e Bb ⟨_, rfl, hr, hb⟩
   obtain ⟨shr, ahr, nhr, chr, Ahr, Nhr, Chr, rfl⟩ := hr.shape
   replace hs := bStep hs hb
   replace B2 := B2.mono hb
   replace hp := hp.mono hb
   replace B3 := B3.mono PC.kept hb
   replace B4 := B4.mono RC.kept hb
   replace B0 := cellK B0 hb
   replace B1 := cellK B1 hb
   clear hb
   try go_wp2_with fail
   refine hK.out _ _ ⟨B0, B1⟩ (fun hH => ?_)
   clear hK K
   try simp only [Act.put, List.setIfInBounds_toArray, List.set_cons_zero, List.set_cons_succ]
   clear hH
   refine U_one (i := 8) (by kernel_rfl) rfl (fun K hK => ?_)
   go_simp
   generalize hWn : (Bb.alloc (.cells #[.bool shr, .slice ahr nhr chr, .slice Ahr Nhr Chr] 38)) = w27
   have hb : Below Bb.heap.size Bb w27 := by rw [← hWn]; exact (Below.refl _ _).alloc (Nat.le_refl _) _
   have Blf : Bx w27 (Bb.heap.size) 38 #[.bool shr, .slice ahr nhr chr, .slice Ahr Nhr Chr] := by rw [← hWn]; exact Bx.new _ _ _
   have nx_f : wr.heap.size ≠ Bb.heap.size := by have := B2.lt; omega
   have sz_f : w.heap.size ≤ Bb.heap.size := hs.size
   replace hs := bStep hs hb
   replace B2 := B2.mono hb
   replace hp := hp.mono hb
   replace hr := hr.mono hb
   replace B3 := B3.mono PC.kept hb
   replace B4 := B4.mono RC.kept hb
   replace B0 := cellK B0 hb
   replace B1 := cellK B1 hb
   clear hb hWn
   refine hK.out _ _ ⟨B0, B1⟩ (fun hH => ?_)
   clear hK K
   try simp only [Act.put, List.setIfInBounds_toArray, List.set_cons_zero, List.set_cons_succ]
   clear hH
   refine U_one (i := 9) (by kernel_rfl) rfl (fun K hK => ?_)
   obtain ⟨css, Bd, Be, Bf, B5⟩ := B4
   simp only [List.getElem_toArray, List.getElem_cons_succ, List.getElem_cons_zero]
   rw [if_pos (by rfl)]
   refine wp_append_lies _ _ _ _ (by rfl) w.heap.size 38 j0 _ 3 56 Tryz.underlying26 hj hy0 hy1 hy2 (by rfl) (by omega) _ _ css.flatten (by rfl) B5 ⟨Bb.heap.size, 0, none⟩ 1 1 [.bool shr, .slice ahr nhr chr, .slice Ahr Nhr Chr] (by rfl) (by rfl) Blf.news ?_ (by omega) ?_ ?_ ?_ _ rfl ?_
   ·intro u hu; simp only [List.mem_cons, List.mem_nil_iff, or_false] at hu; rcases hu with rfl | rfl | rfl <;> rfl
   ·unfold maxLen; omega
   ·omega
   ·exact hs.size
   intro gpb cappb w28 B8 B6 Bc hlt
   have hk := KeepD.owns B5 B6 (by decide)
   have ho := owns_onlyT B5 B6
   replace hs := hs.grown B6 hs.size (fun k hk => (B5.lt k hk).1)
   replace B4 := OwnR.push RC.kept Bd Be Bf (x := (frF (n1, d1))) rfl ⟨_, _, _, rfl, hr⟩ B8 hk
   replace B2 := B2.only ho (by decide)
   replace hp := hp.keep hk
   replace hr := hr.keep hk
   replace B3 := B3.onlyT PC.kept ho (by decide) (by decide)
   replace B0 := B2.at 0 rfl
   replace B1 := B2.at 1 rfl
   clear hk ho Bd Be Bf B5 B8 B6 Blf
   refine hK.out _ _ ⟨B0, B1⟩ (fun hH => ?_)
   clear hK K
   try simp only [Act.put, List.setIfInBounds_toArray, List.set_cons_zero, List.set_cons_succ]
   refine U_take (i := 10) (v := ?_) rfl (by kernel_rfl) (by kernel_rfl) (by kernel_rfl) (by kernel_rfl) (fun _ _ _ h => h) (Or.inl ⟨by rfl, ?_⟩) hH ?_
   rotate_left
   ·intro w B7
    try dsimp only at B7
    go_simp
    try with_reducible rfl
   try simp only [Act.put, List.setIfInBounds_toArray, List.set_cons_zero, List.set_cons_succ]
   clear hH
   refine U_last (by kernel_rfl) rfl (by kernel_rfl) (fun K hK => ?_)
   go_simp
   refine hK.out _ _ ?_
   clear hK K
   intro wl hW
   rw [hW]
   clear hW wl
   try simp only [Act.put, List.setIfInBounds_toArray, List.set_cons_zero, List.set_cons_succ]
   clear B0 B1
   go_wp2
   go_roundw
   case rel => exact ⟨k + 1, by omega, by go_num, hs, by rw [HM.out]; rw [hlm] at B3; exact B3, by rw [HM.out]; rw [hlm] at B4; exact B4⟩
   all_goals first | (simp [intOf]; done) | (simp [intOf]; omega)
  ·rw [List.take_of_length_le (by omega)] at B3 B4
   have O1 := Lib.hid B3.rows
   have O2 := Lib.hid B4.rows
   clear B3 B4
   go_wp2
   go_ret2
   exact ⟨_, _, rfl, O1.out, O2.out, hs⟩
end Go.Proofs.YtkfekkhhfpkfaaaGreat
