/-
  Law 07: numbers: the program's fractions of plain data, and the reference's ones.
-/
import Derived.Test.YtkfekkhhfpkfaaaPkLaw
import Derived.Test.YtkfekkhhfpkfaaaPkHeld
import Derived.Test.YtkfekkhhfpkfaaaPkGr
set_option linter.unusedSimpArgs false
set_option linter.unusedVariables false
namespace Go.Proofs.Ytkfekkhhfpkfaaa
open Go.RowKit Dg
attribute [local go_sem ↓] Go.wp_at_zero Go.wp_at_succ

theorem numR_info : (Try.prog.info? 64).map (fun i => (i.zero, i.size, i.bytes)) = some (some (.agg #[.bool false, .slice none 0 0, .slice none 0 0]), 3, 56) := by kernel_rfl
theorem numP_info : (Try.prog.info? 32).map (fun i => (i.zero, i.size, i.bytes)) = some (some (.agg #[.bool false, .slice none 0 0, .slice none 0 0]), 3, 56) := by kernel_rfl
def frF (x : Int × Int) : Rat := fracQ x.1 x.2

set_option maxRecDepth 100000 in
set_option maxHeartbeats 16000000 in
theorem l7_numbers (v : Value) (l : List (Int × Int)) (w : World) (hl : RowsI 2 FC w v l) (h20 : l.length ≤ 20) (hok : ∀ x ∈ l, DOk x) :
    Calls Try.prog 6 #[v] w (Ret2 (fun w v => Rows 3 32 PC w v (l.map frF)) (fun w v => Rows 3 64 RC w v (l.map frF)) w) := by
  obtain ⟨ao, cap, rfl, hc1, hc2, hc3⟩ := hl.slice
  have hs := Below.refl w.heap.size w
  have HL := Lib.hid hl
  have HOK := Lib.hid hok
  obtain ⟨i0, hi, hz0, hz1, hz2⟩ := info_parts numP_info
  obtain ⟨j0, hj, hy0, hy1, hy2⟩ := info_parts numR_info
  clear hl hok
  go_enter Try.func6, Try.ntmps6
  go_wp2
  go_loopw [4, 5, 10] (fun av bv iv wq => ∃ k : Nat, k ≤ l.length ∧ iv = .int .i64 k ∧ Below w.heap.size w wq ∧ OwnR w.heap.size 32 3 PC wq av ((l.take k).map frF) ∧ OwnR w.heap.size 64 3 RC wq bv ((l.take k).map frF)) (fun _ _ iv _ => l.length - (intOf iv).toNat)
  case atStart => exact ⟨0, Nat.zero_le _, rfl, hs, OwnR.nil _ _ _ _ _, OwnR.nil _ _ _ _ _⟩
  case round =>
    obtain ⟨k, hk, rfl, hs, Opa, Opb⟩ := hrel
    by_cases hlt : k < l.length
    · obtain ⟨⟨n1, d1⟩, hx⟩ : ∃ x, l[k]? = some x := ⟨_, List.getElem?_eq_getElem hlt⟩
      obtain ⟨b, o, c, cs, hv, hlen, hat, rfl⟩ := (HL.out.mono FC.kept hs).get hx
      obtain ⟨rfl, rfl⟩ := sliceE hv
      obtain ⟨a1, a2, a3, a4⟩ := HOK.out _ (List.mem_of_getElem? hx)
      have e0 := hat 0 _ rfl
      have e1 := hat 1 _ rfl
      clear hat
      simp only [Nat.add_zero] at e0
      have HM := Lib.hid (map_take frF l k _ hx)
      have hlm : ((l.take k).map frF).length = k := by rw [List.length_map, List.length_take]; omega
      clear hx hv hlen
      dsimp only at e0 e1 a1 a2 a3 a4
      go_upto_region 6 with fail
      clear e0 e1
      refine Code.abs ?_
      intro w21 hW
      have hsz := hs.size
      have hbw : Below w.heap.size wr w21 := by rw [hW]; exact (Below.alloc (Below.refl w.heap.size wr) (by first | exact hs.size | (have := hs.size; simp; done) | (have := hs.size; simp; omega)) _)
      have hs1 : Below w.heap.size w w21 := hs.trans hbw
      have hk : KeepD wr w21 := by rw [hW]; exact ((KeepD.refl _).alloc _)
      have hb1 : Below wr.heap.size wr w21 := by rw [hW]; exact (Below.alloc (Below.refl _ _) (by first | exact Nat.le_refl _ | (simp; done) | (simp; omega)) _)
      have Bl1x : Bx w21 (wr.heap.size) 53 #[.int .i64 n1, .int .i64 d1] := by rw [hW]; exact (Bx.new' _ _ _ _ (by first | rfl | (simp; done)))
      replace hs := hs1
      clear hs1
      have Blx := Bl1x
      clear Bl1x
      replace Opa := Opa.mono PC.kept hb1
      replace Opb := Opb.mono RC.kept hb1
      clear hb1
      clear hW hk hsz hbw
      have hz_w21 : wr.heap.size < w21.heap.size := Blx.lt
      refine U_region (S := fun w' => w'.cell? ⟨wr.heap.size, 0, none⟩ = some (.int .i64 n1) ∧ w'.cell? ⟨wr.heap.size, 1, none⟩ = some (.int .i64 d1)) (by kernel_rfl) 11 ?_
      refine AnyU.abs ?_
      intro w22 hW
      have hb : Below w21.heap.size w21 w22 := by rw [hW]; exact bDrew _
      replace hs := bStep hs hb
      replace Blx := Blx.mono hb
      replace Opa := Opa.mono PC.kept hb
      replace Opb := Opb.mono RC.kept hb
      clear hb hW
      have cx_0 : w22.cell? ⟨wr.heap.size, 0, none⟩ = some (.int .i64 n1) := Blx.at 0 rfl
      have cx_1 : w22.cell? ⟨wr.heap.size, 1, none⟩ = some (.int .i64 d1) := Blx.at 1 rfl
      have hH := (show w22.cell? ⟨wr.heap.size, 0, none⟩ = some (.int .i64 n1) ∧ w22.cell? ⟨wr.heap.size, 1, none⟩ = some (.int .i64 d1) from ⟨cx_0, cx_1⟩)
      refine U_take (i := 0) (v := ?_) rfl (by kernel_rfl) (by kernel_rfl) (by kernel_rfl) (by kernel_rfl) (fun _ _ _ h => h) (Or.inl ⟨by rfl, ?_⟩) hH ?_
      rotate_left
      · intro w hSw
        try dsimp only at hSw
        go_simp
        try with_reducible rfl
      try simp only [Act.put, List.setIfInBounds_toArray, List.set_cons_zero, List.set_cons_succ]
      refine U_take (i := 1) (v := ?_) rfl (by kernel_rfl) (by kernel_rfl) (by kernel_rfl) (by kernel_rfl) (fun _ _ _ h => h) (Or.inl ⟨by rfl, ?_⟩) hH ?_
      rotate_left
      · intro w hSw
        try dsimp only at hSw
        go_simp
        try with_reducible rfl
      try simp only [Act.put, List.setIfInBounds_toArray, List.set_cons_zero, List.set_cons_succ]
      refine U_take (i := 5) (v := ?_) rfl (by kernel_rfl) (by kernel_rfl) (by kernel_rfl) (by kernel_rfl) (fun _ _ _ h => h) (Or.inl ⟨by rfl, ?_⟩) hH ?_
      rotate_left
      · intro w hSw
        try dsimp only at hSw
        go_simp
        try with_reducible rfl
      try simp only [Act.put, List.setIfInBounds_toArray, List.set_cons_zero, List.set_cons_succ]
      refine U_take (i := 6) (v := ?_) rfl (by kernel_rfl) (by kernel_rfl) (by kernel_rfl) (by kernel_rfl) (fun _ _ _ h => h) (Or.inl ⟨by rfl, ?_⟩) hH ?_
      rotate_left
      · intro w hSw
        try dsimp only at hSw
        go_simp
        try with_reducible rfl
      try simp only [Act.put, List.setIfInBounds_toArray, List.set_cons_zero, List.set_cons_succ]
      clear hH
      refine U_one (i := 2) (by kernel_rfl) rfl (fun K hK => ?_)
      go_simp
      (with_reducible refine (l7_of n1 d1 _ a1 a2 a3 a4).mono ?_)
      rintro e w23 ⟨_, rfl, hp, hb⟩
      obtain ⟨shp, ahp, nhp, chp, Ahp, Nhp, Chp, rfl⟩ := hp.shape
      replace hs := bStep hs hb
      replace Blx := Blx.mono hb
      replace Opa := Opa.mono PC.kept hb
      replace Opb := Opb.mono RC.kept hb
      replace cx_0 := cellK cx_0 hb
      replace cx_1 := cellK cx_1 hb
      clear hb
      try go_wp2_with fail
      refine hK.out _ _ ⟨cx_0, cx_1⟩ (fun hH => ?_)
      clear hK K
      try simp only [Act.put, List.setIfInBounds_toArray, List.set_cons_zero, List.set_cons_succ]
      clear hH
      refine U_one (i := 3) (by kernel_rfl) rfl (fun K hK => ?_)
      go_simp
      generalize hWn : (w23.alloc (.cells #[.bool shp, .slice ahp nhp chp, .slice Ahp Nhp Chp] 32)) = w24
      have hb : Below w23.heap.size w23 w24 := by rw [← hWn]; exact (Below.refl _ _).alloc (Nat.le_refl _) _
      have Ble : Bx w24 (w23.heap.size) 32 #[.bool shp, .slice ahp nhp chp, .slice Ahp Nhp Chp] := by rw [← hWn]; exact Bx.new _ _ _
      have nx_e : wr.heap.size ≠ w23.heap.size := by have := Blx.lt; omega
      have sz_e : w.heap.size ≤ w23.heap.size := hs.size
      replace hs := bStep hs hb
      replace Blx := Blx.mono hb
      replace hp := hp.mono hb
      replace Opa := Opa.mono PC.kept hb
      replace Opb := Opb.mono RC.kept hb
      replace cx_0 := cellK cx_0 hb
      replace cx_1 := cellK cx_1 hb
      clear hb hWn
      refine hK.out _ _ ⟨cx_0, cx_1⟩ (fun hH => ?_)
      clear hK K
      try simp only [Act.put, List.setIfInBounds_toArray, List.set_cons_zero, List.set_cons_succ]
      clear hH
      refine U_one (i := 4) (by kernel_rfl) rfl (fun K hK => ?_)
      obtain ⟨css, ho1, ho2, ho3, hown0⟩ := Opa
      simp only [List.getElem_toArray, List.getElem_cons_succ, List.getElem_cons_zero]
      rw [if_pos (by rfl)]
      refine wp_append_lies _ _ _ _ (by rfl) w.heap.size 32 i0 _ 3 56 Try.underlying25 hi hz0 hz1 hz2 (by rfl) (by omega) _ _ css.flatten (by rfl) hown0 ⟨w23.heap.size, 0, none⟩ 1 1 [.bool shp, .slice ahp nhp chp, .slice Ahp Nhp Chp] (by rfl) (by rfl) Ble.news ?_ (by omega) ?_ ?_ ?_ _ rfl ?_
      · intro u hu; simp only [List.mem_cons, List.mem_nil_iff, or_false] at hu; rcases hu with rfl | rfl | rfl <;> rfl
      · unfold maxLen; omega
      · omega
      · exact hs.size
      intro gpa cappa w25 hown1 hgrow hat hlt
      have hk := KeepD.owns hown0 hgrow (by decide)
      have ho := owns_onlyT hown0 hgrow
      replace hs := hs.grown hgrow hs.size (fun k hk => (hown0.lt k hk).1)
      replace Opa := OwnR.push PC.kept ho1 ho2 ho3 (x := (frF (n1, d1))) rfl ⟨_, _, _, rfl, hp⟩ hown1 hk
      replace Blx := Blx.only ho (by decide)
      replace hp := hp.keep hk
      replace Opb := Opb.onlyT RC.kept ho (by decide) (by decide)
      replace cx_0 := Blx.at 0 rfl
      replace cx_1 := Blx.at 1 rfl
      clear hk ho ho1 ho2 ho3 hown0 hown1 hgrow Ble
      refine hK.out _ _ ⟨cx_0, cx_1⟩ (fun hH => ?_)
      clear hK K
      try simp only [Act.put, List.setIfInBounds_toArray, List.set_cons_zero, List.set_cons_succ]
      clear hH
      refine U_one (i := 7) (by kernel_rfl) rfl (fun K hK => ?_)
      go_simp
      (with_reducible refine (r_Of_calls n1 d1 _ a1 a2 a3 a4).mono ?_)
      rintro e w26 ⟨_, rfl, hr, hb⟩
      obtain ⟨shr, ahr, nhr, chr, Ahr, Nhr, Chr, rfl⟩ := hr.shape
      replace hs := bStep hs hb
      replace Blx := Blx.mono hb
      replace hp := hp.mono hb
      replace Opa := Opa.mono PC.kept hb
      replace Opb := Opb.mono RC.kept hb
      replace cx_0 := cellK cx_0 hb
      replace cx_1 := cellK cx_1 hb
      clear hb
      try go_wp2_with fail
      refine hK.out _ _ ⟨cx_0, cx_1⟩ (fun hH => ?_)
      clear hK K
      try simp only [Act.put, List.setIfInBounds_toArray, List.set_cons_zero, List.set_cons_succ]
      clear hH
      refine U_one (i := 8) (by kernel_rfl) rfl (fun K hK => ?_)
      go_simp
      generalize hWn : (w26.alloc (.cells #[.bool shr, .slice ahr nhr chr, .slice Ahr Nhr Chr] 64)) = w27
      have hb : Below w26.heap.size w26 w27 := by rw [← hWn]; exact (Below.refl _ _).alloc (Nat.le_refl _) _
      have Blf : Bx w27 (w26.heap.size) 64 #[.bool shr, .slice ahr nhr chr, .slice Ahr Nhr Chr] := by rw [← hWn]; exact Bx.new _ _ _
      have nx_f : wr.heap.size ≠ w26.heap.size := by have := Blx.lt; omega
      have sz_f : w.heap.size ≤ w26.heap.size := hs.size
      replace hs := bStep hs hb
      replace Blx := Blx.mono hb
      replace hp := hp.mono hb
      replace hr := hr.mono hb
      replace Opa := Opa.mono PC.kept hb
      replace Opb := Opb.mono RC.kept hb
      replace cx_0 := cellK cx_0 hb
      replace cx_1 := cellK cx_1 hb
      clear hb hWn
      refine hK.out _ _ ⟨cx_0, cx_1⟩ (fun hH => ?_)
      clear hK K
      try simp only [Act.put, List.setIfInBounds_toArray, List.set_cons_zero, List.set_cons_succ]
      clear hH
      refine U_one (i := 9) (by kernel_rfl) rfl (fun K hK => ?_)
      obtain ⟨css, ho1, ho2, ho3, hown0⟩ := Opb
      simp only [List.getElem_toArray, List.getElem_cons_succ, List.getElem_cons_zero]
      rw [if_pos (by rfl)]
      refine wp_append_lies _ _ _ _ (by rfl) w.heap.size 64 j0 _ 3 56 Try.underlying26 hj hy0 hy1 hy2 (by rfl) (by omega) _ _ css.flatten (by rfl) hown0 ⟨w26.heap.size, 0, none⟩ 1 1 [.bool shr, .slice ahr nhr chr, .slice Ahr Nhr Chr] (by rfl) (by rfl) Blf.news ?_ (by omega) ?_ ?_ ?_ _ rfl ?_
      · intro u hu; simp only [List.mem_cons, List.mem_nil_iff, or_false] at hu; rcases hu with rfl | rfl | rfl <;> rfl
      · unfold maxLen; omega
      · omega
      · exact hs.size
      intro gpb cappb w28 hown1 hgrow hat hlt
      have hk := KeepD.owns hown0 hgrow (by decide)
      have ho := owns_onlyT hown0 hgrow
      replace hs := hs.grown hgrow hs.size (fun k hk => (hown0.lt k hk).1)
      replace Opb := OwnR.push RC.kept ho1 ho2 ho3 (x := (frF (n1, d1))) rfl ⟨_, _, _, rfl, hr⟩ hown1 hk
      replace Blx := Blx.only ho (by decide)
      replace hp := hp.keep hk
      replace hr := hr.keep hk
      replace Opa := Opa.onlyT PC.kept ho (by decide) (by decide)
      replace cx_0 := Blx.at 0 rfl
      replace cx_1 := Blx.at 1 rfl
      clear hk ho ho1 ho2 ho3 hown0 hown1 hgrow Blf
      refine hK.out _ _ ⟨cx_0, cx_1⟩ (fun hH => ?_)
      clear hK K
      try simp only [Act.put, List.setIfInBounds_toArray, List.set_cons_zero, List.set_cons_succ]
      refine U_take (i := 10) (v := ?_) rfl (by kernel_rfl) (by kernel_rfl) (by kernel_rfl) (by kernel_rfl) (fun _ _ _ h => h) (Or.inl ⟨by rfl, ?_⟩) hH ?_
      rotate_left
      · intro w hSw
        try dsimp only at hSw
        go_simp
        try with_reducible rfl
      try simp only [Act.put, List.setIfInBounds_toArray, List.set_cons_zero, List.set_cons_succ]
      clear hH
      refine U_last (by kernel_rfl) rfl (by kernel_rfl) (fun K hK => ?_)
      go_simp
      refine hK.out _ _ ?_
      clear hK K
      intro wl hW
      rw [hW]
      clear hW wl
      try simp only [Act.put, List.setIfInBounds_toArray, List.set_cons_zero, List.set_cons_succ]
      clear cx_0 cx_1
      go_wp2
      go_roundw
      case rel => exact ⟨k + 1, by omega, by go_num, hs, by rw [HM.out]; rw [hlm] at Opa; exact Opa, by rw [HM.out]; rw [hlm] at Opb; exact Opb⟩
      all_goals first | (simp [intOf]; done) | (simp [intOf]; omega)
    · rw [List.take_of_length_le (by omega)] at Opa Opb
      have O1 := Lib.hid Opa.rows
      have O2 := Lib.hid Opb.rows
      clear Opa Opb
      go_wp2
      go_ret2
      exact ⟨_, _, rfl, O1.out, O2.out, hs⟩
end Go.Proofs.Ytkfekkhhfpkfaaa
