/-
  Law 07: the layers of plain data, in the program's form and in the reference's one.
-/
import Derived.Test.YtlfnapfnpkhggaaLawC
import Derived.Test.YtlfnapfnpkhggaaPkLaw
import Derived.Test.YtlfnapfnpkhggaaPkOps
import Derived.Test.YtlfnapfnpkhggaaPkHeld
set_option linter.unusedSimpArgs false
set_option linter.unusedVariables false
namespace Go.Proofs.Ytlfnapfnpkhggaa
open Go.RowKit Dg
attribute [local go_sem ↓] Go.wp_at_zero Go.wp_at_succ

theorem layP_info : (Try.prog.info? 41).map (fun i => (i.zero, i.size, i.bytes)) = some (some (.agg #[.bool false, .slice none 0 0, .slice none 0 0, .bool false, .slice none 0 0, .slice none 0 0, .bool false, .slice none 0 0, .slice none 0 0]), 9, 168) := by kernel_rfl
theorem layR_info : (Try.prog.info? 98).map (fun i => (i.zero, i.size, i.bytes)) = some (some (.agg #[.bool false, .slice none 0 0, .slice none 0 0, .bool false, .slice none 0 0, .slice none 0 0, .bool false, .slice none 0 0, .slice none 0 0]), 9, 168) := by kernel_rfl

def layF (x : DL) : Lay := (fracQ x.1.1 x.1.2, fracQ x.2.1.1 x.2.1.2, fracQ x.2.2.1 x.2.2.2)

set_option maxRecDepth 100000 in
set_option maxHeartbeats 16000000 in
theorem l7_layers (v : Value) (l : List DL) (w : World) (hl : RowsI 6 DC w v l) (h20 : l.length ≤ 20) (hok : ∀ x ∈ l, DOk x.1 ∧ DOk x.2.1 ∧ DOk x.2.2) :
    Calls Try.prog 8 #[v] w (Ret2 (fun w v => Rows 9 41 (C3 PC) w v (l.map layF)) (fun w v => Rows 9 98 (C3 RC) w v (l.map layF)) w) := by
  obtain ⟨ao, cap, rfl, hc1, hc2, hc3⟩ := hl.slice
  have hs := Below.refl w.heap.size w
  have HL := Lib.hid hl
  have HOK := Lib.hid hok
  obtain ⟨i0, hi, hz0, hz1, hz2⟩ := info_parts layP_info
  obtain ⟨j0, hj, hy0, hy1, hy2⟩ := info_parts layR_info
  clear hl hok
  go_enter Try.func8, Try.ntmps8
  go_wp2
  go_loopw [4, 5, 10] (fun av bv iv wq => ∃ k : Nat, k ≤ l.length ∧ iv = .int .i64 k ∧ Below w.heap.size w wq ∧ OwnR w.heap.size 41 9 (C3 PC) wq av ((l.take k).map layF) ∧ OwnR w.heap.size 98 9 (C3 RC) wq bv ((l.take k).map layF)) (fun _ _ iv _ => l.length - (intOf iv).toNat)
  case atStart => exact ⟨0, Nat.zero_le _, rfl, hs, OwnR.nil _ _ _ _ _, OwnR.nil _ _ _ _ _⟩
  case round =>
    obtain ⟨k, hk, rfl, hs, Opa, Opb⟩ := hrel
    by_cases hlt : k < l.length
    · obtain ⟨⟨⟨n1, d1⟩, ⟨n2, d2⟩, ⟨n3, d3⟩⟩, hx⟩ : ∃ x, l[k]? = some x := ⟨_, List.getElem?_eq_getElem hlt⟩
      obtain ⟨b, o, c, cs, hv, hlen, hat, rfl⟩ := (HL.out.mono DC.kept hs).get hx
      obtain ⟨rfl, rfl⟩ := sliceE hv
      obtain ⟨⟨a1, a2, a3, a4⟩, ⟨b1, b2, b3, b4⟩, ⟨c1, c2, c3, c4⟩⟩ := HOK.out _ (List.mem_of_getElem? hx)
      have e0 := hat 0 _ rfl
      have e1 := hat 1 _ rfl
      have e2 := hat 2 _ rfl
      have e3 := hat 3 _ rfl
      have e4 := hat 4 _ rfl
      have e5 := hat 5 _ rfl
      clear hat
      simp only [Nat.add_zero] at e0
      have HM := Lib.hid (map_take layF l k _ hx)
      have hlm : ((l.take k).map layF).length = k := by rw [List.length_map, List.length_take]; omega
      clear hx hv hlen
      dsimp only at e0 e1 e2 e3 e4 e5 a1 a2 a3 a4 b1 b2 b3 b4 c1 c2 c3 c4
      go_upto_region 6 with fail
      clear e0 e1 e2 e3 e4 e5
      refine Code.abs ?_
      intro w21 hW
      have hsz := hs.size
      have hbw : Below w.heap.size wr w21 := by rw [hW]; exact (Below.alloc (Below.refl w.heap.size wr) (by first | exact hs.size | (have := hs.size; simp; done) | (have := hs.size; simp; omega)) _)
      have hs1 : Below w.heap.size w w21 := hs.trans hbw
      have hk : KeepD wr w21 := by rw [hW]; exact ((KeepD.refl _).alloc _)
      have hb1 : Below wr.heap.size wr w21 := by rw [hW]; exact (Below.alloc (Below.refl _ _) (by first | exact Nat.le_refl _ | (simp; done) | (simp; omega)) _)
      have Bl1x : Bx w21 (wr.heap.size) 83 #[.int .i64 n1, .int .i64 d1, .int .i64 n2, .int .i64 d2, .int .i64 n3, .int .i64 d3] := by rw [hW]; exact (Bx.new' _ _ _ _ (by first | rfl | (simp; done)))
      replace hs := hs1
      clear hs1
      have Blx := Bl1x
      clear Bl1x
      replace Opa := Opa.mono (C3.kept PC.kept) hb1
      replace Opb := Opb.mono (C3.kept RC.kept) hb1
      clear hb1
      clear hW hk hsz hbw
      have hz_w21 : wr.heap.size < w21.heap.size := Blx.lt
      refine U_region (S := fun w' => w'.cell? ⟨wr.heap.size, 0, none⟩ = some (.int .i64 n1) ∧ w'.cell? ⟨wr.heap.size, 1, none⟩ = some (.int .i64 d1) ∧ w'.cell? ⟨wr.heap.size, 2, none⟩ = some (.int .i64 n2) ∧ w'.cell? ⟨wr.heap.size, 3, none⟩ = some (.int .i64 d2) ∧ w'.cell? ⟨wr.heap.size, 4, none⟩ = some (.int .i64 n3) ∧ w'.cell? ⟨wr.heap.size, 5, none⟩ = some (.int .i64 d3)) (by kernel_rfl) 13 ?_
      refine AnyU.abs ?_
      intro w22 hW
      have hb : Below w21.heap.size w21 w22 := by rw [hW]; exact bDrew _
      replace hs := bStep hs hb
      replace Blx := Blx.mono hb
      replace Opa := Opa.mono (C3.kept PC.kept) hb
      replace Opb := Opb.mono (C3.kept RC.kept) hb
      clear hb hW
      have cx_0 : w22.cell? ⟨wr.heap.size, 0, none⟩ = some (.int .i64 n1) := Blx.at 0 rfl
      have cx_1 : w22.cell? ⟨wr.heap.size, 1, none⟩ = some (.int .i64 d1) := Blx.at 1 rfl
      have cx_2 : w22.cell? ⟨wr.heap.size, 2, none⟩ = some (.int .i64 n2) := Blx.at 2 rfl
      have cx_3 : w22.cell? ⟨wr.heap.size, 3, none⟩ = some (.int .i64 d2) := Blx.at 3 rfl
      have cx_4 : w22.cell? ⟨wr.heap.size, 4, none⟩ = some (.int .i64 n3) := Blx.at 4 rfl
      have cx_5 : w22.cell? ⟨wr.heap.size, 5, none⟩ = some (.int .i64 d3) := Blx.at 5 rfl
      have hH := (show w22.cell? ⟨wr.heap.size, 0, none⟩ = some (.int .i64 n1) ∧ w22.cell? ⟨wr.heap.size, 1, none⟩ = some (.int .i64 d1) ∧ w22.cell? ⟨wr.heap.size, 2, none⟩ = some (.int .i64 n2) ∧ w22.cell? ⟨wr.heap.size, 3, none⟩ = some (.int .i64 d2) ∧ w22.cell? ⟨wr.heap.size, 4, none⟩ = some (.int .i64 n3) ∧ w22.cell? ⟨wr.heap.size, 5, none⟩ = some (.int .i64 d3) from ⟨cx_0, cx_1, cx_2, cx_3, cx_4, cx_5⟩)
      refine U_take (i := 0) (v := ?_) rfl (by kernel_rfl) (by kernel_rfl) (by kernel_rfl) (by kernel_rfl) (fun _ _ _ h => h) (Or.inl ⟨by rfl, ?_⟩) hH ?_
      rotate_left
      · intro w hSw
        try dsimp only at hSw
        go_simp
        try with_reducible rfl
      try simp only [Act.put, List.setIfInBounds_toArray, List.set_cons_zero, List.set_cons_succ]
      refine U_take (i := 1) (v := ?_) rfl (by kernel_rfl) (by kernel_rfl) (by kernel_rfl) (by kernel_rfl) (fun _ _ _ h => h) (Or.inl ⟨by rfl, ?_⟩) hH ?_
      rotate_left
      · intro w hSw
        try dsimp only at hSw
        go_simp
        try with_reducible rfl
      try simp only [Act.put, List.setIfInBounds_toArray, List.set_cons_zero, List.set_cons_succ]
      refine U_take (i := 2) (v := ?_) rfl (by kernel_rfl) (by kernel_rfl) (by kernel_rfl) (by kernel_rfl) (fun _ _ _ h => h) (Or.inl ⟨by rfl, ?_⟩) hH ?_
      rotate_left
      · intro w hSw
        try dsimp only at hSw
        go_simp
        try with_reducible rfl
      try simp only [Act.put, List.setIfInBounds_toArray, List.set_cons_zero, List.set_cons_succ]
      refine U_take (i := 4) (v := ?_) rfl (by kernel_rfl) (by kernel_rfl) (by kernel_rfl) (by kernel_rfl) (fun _ _ _ h => h) (Or.inl ⟨by rfl, ?_⟩) hH ?_
      rotate_left
      · intro w hSw
        try dsimp only at hSw
        go_simp
        try with_reducible rfl
      try simp only [Act.put, List.setIfInBounds_toArray, List.set_cons_zero, List.set_cons_succ]
      refine U_take (i := 5) (v := ?_) rfl (by kernel_rfl) (by kernel_rfl) (by kernel_rfl) (by kernel_rfl) (fun _ _ _ h => h) (Or.inl ⟨by rfl, ?_⟩) hH ?_
      rotate_left
      · intro w hSw
        try dsimp only at hSw
        go_simp
        try with_reducible rfl
      try simp only [Act.put, List.setIfInBounds_toArray, List.set_cons_zero, List.set_cons_succ]
      refine U_take (i := 7) (v := ?_) rfl (by kernel_rfl) (by kernel_rfl) (by kernel_rfl) (by kernel_rfl) (fun _ _ _ h => h) (Or.inl ⟨by rfl, ?_⟩) hH ?_
      rotate_left
      · intro w hSw
        try dsimp only at hSw
        go_simp
        try with_reducible rfl
      try simp only [Act.put, List.setIfInBounds_toArray, List.set_cons_zero, List.set_cons_succ]
      refine U_take (i := 8) (v := ?_) rfl (by kernel_rfl) (by kernel_rfl) (by kernel_rfl) (by kernel_rfl) (fun _ _ _ h => h) (Or.inl ⟨by rfl, ?_⟩) hH ?_
      rotate_left
      · intro w hSw
        try dsimp only at hSw
        go_simp
        try with_reducible rfl
      try simp only [Act.put, List.setIfInBounds_toArray, List.set_cons_zero, List.set_cons_succ]
      clear hH
      refine U_one (i := 3) (by kernel_rfl) rfl (fun K hK => ?_)
      go_simp
      (with_reducible refine (l7_of n1 d1 _ a1 a2 a3 a4).mono ?_)
      rintro e w23 ⟨_, rfl, hp1, hb⟩
      obtain ⟨shp1, ahp1, nhp1, chp1, Ahp1, Nhp1, Chp1, rfl⟩ := hp1.shape
      replace hs := bStep hs hb
      replace Blx := Blx.mono hb
      replace Opa := Opa.mono (C3.kept PC.kept) hb
      replace Opb := Opb.mono (C3.kept RC.kept) hb
      replace cx_0 := cellK cx_0 hb
      replace cx_1 := cellK cx_1 hb
      replace cx_2 := cellK cx_2 hb
      replace cx_3 := cellK cx_3 hb
      replace cx_4 := cellK cx_4 hb
      replace cx_5 := cellK cx_5 hb
      clear hb
      try go_wp2_with fail
      refine hK.out _ _ ⟨cx_0, cx_1, cx_2, cx_3, cx_4, cx_5⟩ (fun hH => ?_)
      clear hK K
      try simp only [Act.put, List.setIfInBounds_toArray, List.set_cons_zero, List.set_cons_succ]
      clear hH
      refine U_one (i := 6) (by kernel_rfl) rfl (fun K hK => ?_)
      go_simp
      (with_reducible refine (l7_of n2 d2 _ b1 b2 b3 b4).mono ?_)
      rintro e w24 ⟨_, rfl, hp2, hb⟩
      obtain ⟨shp2, ahp2, nhp2, chp2, Ahp2, Nhp2, Chp2, rfl⟩ := hp2.shape
      replace hs := bStep hs hb
      replace Blx := Blx.mono hb
      replace hp1 := hp1.mono hb
      replace Opa := Opa.mono (C3.kept PC.kept) hb
      replace Opb := Opb.mono (C3.kept RC.kept) hb
      replace cx_0 := cellK cx_0 hb
      replace cx_1 := cellK cx_1 hb
      replace cx_2 := cellK cx_2 hb
      replace cx_3 := cellK cx_3 hb
      replace cx_4 := cellK cx_4 hb
      replace cx_5 := cellK cx_5 hb
      clear hb
      try go_wp2_with fail
      refine hK.out _ _ ⟨cx_0, cx_1, cx_2, cx_3, cx_4, cx_5⟩ (fun hH => ?_)
      clear hK K
      try simp only [Act.put, List.setIfInBounds_toArray, List.set_cons_zero, List.set_cons_succ]
      clear hH
      refine U_one (i := 9) (by kernel_rfl) rfl (fun K hK => ?_)
      go_simp
      (with_reducible refine (l7_of n3 d3 _ c1 c2 c3 c4).mono ?_)
      rintro e w25 ⟨_, rfl, hp3, hb⟩
      obtain ⟨shp3, ahp3, nhp3, chp3, Ahp3, Nhp3, Chp3, rfl⟩ := hp3.shape
      replace hs := bStep hs hb
      replace Blx := Blx.mono hb
      replace hp1 := hp1.mono hb
      replace hp2 := hp2.mono hb
      replace Opa := Opa.mono (C3.kept PC.kept) hb
      replace Opb := Opb.mono (C3.kept RC.kept) hb
      replace cx_0 := cellK cx_0 hb
      replace cx_1 := cellK cx_1 hb
      replace cx_2 := cellK cx_2 hb
      replace cx_3 := cellK cx_3 hb
      replace cx_4 := cellK cx_4 hb
      replace cx_5 := cellK cx_5 hb
      clear hb
      try go_wp2_with fail
      refine hK.out _ _ ⟨cx_0, cx_1, cx_2, cx_3, cx_4, cx_5⟩ (fun hH => ?_)
      clear hK K
      try simp only [Act.put, List.setIfInBounds_toArray, List.set_cons_zero, List.set_cons_succ]
      refine U_take (i := 10) (v := ?_) rfl (by kernel_rfl) (by kernel_rfl) (by kernel_rfl) (by kernel_rfl) (fun _ _ _ h => h) (Or.inl ⟨by rfl, ?_⟩) hH ?_
      rotate_left
      · intro w hSw
        try dsimp only at hSw
        go_simp
        try with_reducible rfl
      try simp only [Act.put, List.setIfInBounds_toArray, List.set_cons_zero, List.set_cons_succ]
      clear hH
      refine U_one (i := 11) (by kernel_rfl) rfl (fun K hK => ?_)
      go_simp
      generalize hWn : (w25.alloc (.cells #[.bool shp1, .slice ahp1 nhp1 chp1, .slice Ahp1 Nhp1 Chp1, .bool shp2, .slice ahp2 nhp2 chp2, .slice Ahp2 Nhp2 Chp2, .bool shp3, .slice ahp3 nhp3 chp3, .slice Ahp3 Nhp3 Chp3] 41)) = w26
      have hb : Below w25.heap.size w25 w26 := by rw [← hWn]; exact (Below.refl _ _).alloc (Nat.le_refl _) _
      have Ble : Bx w26 (w25.heap.size) 41 #[.bool shp1, .slice ahp1 nhp1 chp1, .slice Ahp1 Nhp1 Chp1, .bool shp2, .slice ahp2 nhp2 chp2, .slice Ahp2 Nhp2 Chp2, .bool shp3, .slice ahp3 nhp3 chp3, .slice Ahp3 Nhp3 Chp3] := by rw [← hWn]; exact Bx.new _ _ _
      have nx_e : wr.heap.size ≠ w25.heap.size := by have := Blx.lt; omega
      have sz_e : w.heap.size ≤ w25.heap.size := hs.size
      replace hs := bStep hs hb
      replace Blx := Blx.mono hb
      replace hp1 := hp1.mono hb
      replace hp2 := hp2.mono hb
      replace hp3 := hp3.mono hb
      replace Opa := Opa.mono (C3.kept PC.kept) hb
      replace Opb := Opb.mono (C3.kept RC.kept) hb
      replace cx_0 := cellK cx_0 hb
      replace cx_1 := cellK cx_1 hb
      replace cx_2 := cellK cx_2 hb
      replace cx_3 := cellK cx_3 hb
      replace cx_4 := cellK cx_4 hb
      replace cx_5 := cellK cx_5 hb
      clear hb hWn
      refine hK.out _ _ ⟨cx_0, cx_1, cx_2, cx_3, cx_4, cx_5⟩ (fun hH => ?_)
      clear hK K
      try simp only [Act.put, List.setIfInBounds_toArray, List.set_cons_zero, List.set_cons_succ]
      clear hH
      refine U_one (i := 12) (by kernel_rfl) rfl (fun K hK => ?_)
      obtain ⟨css, ho1, ho2, ho3, hown0⟩ := Opa
      simp only [List.getElem_toArray, List.getElem_cons_succ, List.getElem_cons_zero]
      rw [if_pos (by rfl)]
      refine wp_append_lies _ _ _ _ (by rfl) w.heap.size 41 i0 _ 9 168 Try.underlying25 hi hz0 hz1 hz2 (by rfl) (by omega) _ _ css.flatten (by rfl) hown0 ⟨w25.heap.size, 0, none⟩ 1 1 [.bool shp1, .slice ahp1 nhp1 chp1, .slice Ahp1 Nhp1 Chp1, .bool shp2, .slice ahp2 nhp2 chp2, .slice Ahp2 Nhp2 Chp2, .bool shp3, .slice ahp3 nhp3 chp3, .slice Ahp3 Nhp3 Chp3] (by rfl) (by rfl) Ble.news ?_ (by omega) ?_ ?_ ?_ _ rfl ?_
      · intro u hu; simp only [List.mem_cons, List.mem_nil_iff, or_false] at hu; rcases hu with rfl | rfl | rfl | rfl | rfl | rfl | rfl | rfl | rfl <;> rfl
      · unfold maxLen; omega
      · omega
      · exact hs.size
      intro gpa cappa w27 hown1 hgrow hat hlt
      have hk := KeepD.owns hown0 hgrow (by decide)
      have ho := owns_onlyT hown0 hgrow
      replace hs := hs.grown hgrow hs.size (fun k hk => (hown0.lt k hk).1)
      replace Opa := OwnR.push (C3.kept PC.kept) ho1 ho2 ho3 (x := (layF ((n1, d1), (n2, d2), (n3, d3)))) rfl ⟨[_, _, _], [_, _, _], [_, _, _], rfl, ⟨_, _, _, rfl, hp1⟩, ⟨_, _, _, rfl, hp2⟩, ⟨_, _, _, rfl, hp3⟩⟩ hown1 hk
      replace Blx := Blx.only ho (by decide)
      replace hp1 := hp1.keep hk
      replace hp2 := hp2.keep hk
      replace hp3 := hp3.keep hk
      replace Opb := Opb.onlyT (C3.kept RC.kept) ho (by decide) (by decide)
      replace cx_0 := Blx.at 0 rfl
      replace cx_1 := Blx.at 1 rfl
      replace cx_2 := Blx.at 2 rfl
      replace cx_3 := Blx.at 3 rfl
      replace cx_4 := Blx.at 4 rfl
      replace cx_5 := Blx.at 5 rfl
      clear hk ho ho1 ho2 ho3 hown0 hown1 hgrow Ble
      refine hK.out _ _ ⟨cx_0, cx_1, cx_2, cx_3, cx_4, cx_5⟩ (fun hH => ?_)
      clear hK K
      try simp only [Act.put, List.setIfInBounds_toArray, List.set_cons_zero, List.set_cons_succ]
      clear hH
      refine U_last (by kernel_rfl) rfl (by kernel_rfl) (fun K hK => ?_)
      go_simp
      refine hK.out _ _ ?_
      clear hK K
      intro wl hW
      rw [hW]
      clear hW wl
      try simp only [Act.put, List.setIfInBounds_toArray, List.set_cons_zero, List.set_cons_succ]
      clear cx_0 cx_1 cx_2 cx_3 cx_4 cx_5
      clear hp1 hp2 hp3
      go_upto_region 7 with fail
      refine U_region (S := fun w' => w'.cell? ⟨wr.heap.size, 0, none⟩ = some (.int .i64 n1) ∧ w'.cell? ⟨wr.heap.size, 1, none⟩ = some (.int .i64 d1) ∧ w'.cell? ⟨wr.heap.size, 2, none⟩ = some (.int .i64 n2) ∧ w'.cell? ⟨wr.heap.size, 3, none⟩ = some (.int .i64 d2) ∧ w'.cell? ⟨wr.heap.size, 4, none⟩ = some (.int .i64 n3) ∧ w'.cell? ⟨wr.heap.size, 5, none⟩ = some (.int .i64 d3)) (by kernel_rfl) 13 ?_
      refine AnyU.abs ?_
      intro w28 hW
      have hb : Below w27.heap.size w27 w28 := by rw [hW]; exact bDrew _
      replace hs := bStep hs hb
      replace Blx := Blx.mono hb
      replace Opa := Opa.mono (C3.kept PC.kept) hb
      replace Opb := Opb.mono (C3.kept RC.kept) hb
      clear hb hW
      have cx_0 : w28.cell? ⟨wr.heap.size, 0, none⟩ = some (.int .i64 n1) := Blx.at 0 rfl
      have cx_1 : w28.cell? ⟨wr.heap.size, 1, none⟩ = some (.int .i64 d1) := Blx.at 1 rfl
      have cx_2 : w28.cell? ⟨wr.heap.size, 2, none⟩ = some (.int .i64 n2) := Blx.at 2 rfl
      have cx_3 : w28.cell? ⟨wr.heap.size, 3, none⟩ = some (.int .i64 d2) := Blx.at 3 rfl
      have cx_4 : w28.cell? ⟨wr.heap.size, 4, none⟩ = some (.int .i64 n3) := Blx.at 4 rfl
      have cx_5 : w28.cell? ⟨wr.heap.size, 5, none⟩ = some (.int .i64 d3) := Blx.at 5 rfl
      have hH := (show w28.cell? ⟨wr.heap.size, 0, none⟩ = some (.int .i64 n1) ∧ w28.cell? ⟨wr.heap.size, 1, none⟩ = some (.int .i64 d1) ∧ w28.cell? ⟨wr.heap.size, 2, none⟩ = some (.int .i64 n2) ∧ w28.cell? ⟨wr.heap.size, 3, none⟩ = some (.int .i64 d2) ∧ w28.cell? ⟨wr.heap.size, 4, none⟩ = some (.int .i64 n3) ∧ w28.cell? ⟨wr.heap.size, 5, none⟩ = some (.int .i64 d3) from ⟨cx_0, cx_1, cx_2, cx_3, cx_4, cx_5⟩)
      refine U_take (i := 0) (v := ?_) rfl (by kernel_rfl) (by kernel_rfl) (by kernel_rfl) (by kernel_rfl) (fun _ _ _ h => h) (Or.inl ⟨by rfl, ?_⟩) hH ?_
      rotate_left
      · intro w hSw
        try dsimp only at hSw
        go_simp
        try with_reducible rfl
      try simp only [Act.put, List.setIfInBounds_toArray, List.set_cons_zero, List.set_cons_succ]
      refine U_take (i := 1) (v := ?_) rfl (by kernel_rfl) (by kernel_rfl) (by kernel_rfl) (by kernel_rfl) (fun _ _ _ h => h) (Or.inl ⟨by rfl, ?_⟩) hH ?_
      rotate_left
      · intro w hSw
        try dsimp only at hSw
        go_simp
        try with_reducible rfl
      try simp only [Act.put, List.setIfInBounds_toArray, List.set_cons_zero, List.set_cons_succ]
      refine U_take (i := 2) (v := ?_) rfl (by kernel_rfl) (by kernel_rfl) (by kernel_rfl) (by kernel_rfl) (fun _ _ _ h => h) (Or.inl ⟨by rfl, ?_⟩) hH ?_
      rotate_left
      · intro w hSw
        try dsimp only at hSw
        go_simp
        try with_reducible rfl
      try simp only [Act.put, List.setIfInBounds_toArray, List.set_cons_zero, List.set_cons_succ]
      refine U_take (i := 4) (v := ?_) rfl (by kernel_rfl) (by kernel_rfl) (by kernel_rfl) (by kernel_rfl) (fun _ _ _ h => h) (Or.inl ⟨by rfl, ?_⟩) hH ?_
      rotate_left
      · intro w hSw
        try dsimp only at hSw
        go_simp
        try with_reducible rfl
      try simp only [Act.put, List.setIfInBounds_toArray, List.set_cons_zero, List.set_cons_succ]
      refine U_take (i := 5) (v := ?_) rfl (by kernel_rfl) (by kernel_rfl) (by kernel_rfl) (by kernel_rfl) (fun _ _ _ h => h) (Or.inl ⟨by rfl, ?_⟩) hH ?_
      rotate_left
      · intro w hSw
        try dsimp only at hSw
        go_simp
        try with_reducible rfl
      try simp only [Act.put, List.setIfInBounds_toArray, List.set_cons_zero, List.set_cons_succ]
      refine U_take (i := 7) (v := ?_) rfl (by kernel_rfl) (by kernel_rfl) (by kernel_rfl) (by kernel_rfl) (fun _ _ _ h => h) (Or.inl ⟨by rfl, ?_⟩) hH ?_
      rotate_left
      · intro w hSw
        try dsimp only at hSw
        go_simp
        try with_reducible rfl
      try simp only [Act.put, List.setIfInBounds_toArray, List.set_cons_zero, List.set_cons_succ]
      refine U_take (i := 8) (v := ?_) rfl (by kernel_rfl) (by kernel_rfl) (by kernel_rfl) (by kernel_rfl) (fun _ _ _ h => h) (Or.inl ⟨by rfl, ?_⟩) hH ?_
      rotate_left
      · intro w hSw
        try dsimp only at hSw
        go_simp
        try with_reducible rfl
      try simp only [Act.put, List.setIfInBounds_toArray, List.set_cons_zero, List.set_cons_succ]
      clear hH
      refine U_one (i := 3) (by kernel_rfl) rfl (fun K hK => ?_)
      go_simp
      (with_reducible refine (r_Of_calls n1 d1 _ a1 a2 a3 a4).mono ?_)
      rintro e w29 ⟨_, rfl, hr1, hb⟩
      obtain ⟨shr1, ahr1, nhr1, chr1, Ahr1, Nhr1, Chr1, rfl⟩ := hr1.shape
      replace hs := bStep hs hb
      replace Blx := Blx.mono hb
      replace Opa := Opa.mono (C3.kept PC.kept) hb
      replace Opb := Opb.mono (C3.kept RC.kept) hb
      replace cx_0 := cellK cx_0 hb
      replace cx_1 := cellK cx_1 hb
      replace cx_2 := cellK cx_2 hb
      replace cx_3 := cellK cx_3 hb
      replace cx_4 := cellK cx_4 hb
      replace cx_5 := cellK cx_5 hb
      clear hb
      try go_wp2_with fail
      refine hK.out _ _ ⟨cx_0, cx_1, cx_2, cx_3, cx_4, cx_5⟩ (fun hH => ?_)
      clear hK K
      try simp only [Act.put, List.setIfInBounds_toArray, List.set_cons_zero, List.set_cons_succ]
      clear hH
      refine U_one (i := 6) (by kernel_rfl) rfl (fun K hK => ?_)
      go_simp
      (with_reducible refine (r_Of_calls n2 d2 _ b1 b2 b3 b4).mono ?_)
      rintro e w30 ⟨_, rfl, hr2, hb⟩
      obtain ⟨shr2, ahr2, nhr2, chr2, Ahr2, Nhr2, Chr2, rfl⟩ := hr2.shape
      replace hs := bStep hs hb
      replace Blx := Blx.mono hb
      replace hr1 := hr1.mono hb
      replace Opa := Opa.mono (C3.kept PC.kept) hb
      replace Opb := Opb.mono (C3.kept RC.kept) hb
      replace cx_0 := cellK cx_0 hb
      replace cx_1 := cellK cx_1 hb
      replace cx_2 := cellK cx_2 hb
      replace cx_3 := cellK cx_3 hb
      replace cx_4 := cellK cx_4 hb
      replace cx_5 := cellK cx_5 hb
      clear hb
      try go_wp2_with fail
      refine hK.out _ _ ⟨cx_0, cx_1, cx_2, cx_3, cx_4, cx_5⟩ (fun hH => ?_)
      clear hK K
      try simp only [Act.put, List.setIfInBounds_toArray, List.set_cons_zero, List.set_cons_succ]
      clear hH
      refine U_one (i := 9) (by kernel_rfl) rfl (fun K hK => ?_)
      go_simp
      (with_reducible refine (r_Of_calls n3 d3 _ c1 c2 c3 c4).mono ?_)
      rintro e w31 ⟨_, rfl, hr3, hb⟩
      obtain ⟨shr3, ahr3, nhr3, chr3, Ahr3, Nhr3, Chr3, rfl⟩ := hr3.shape
      replace hs := bStep hs hb
      replace Blx := Blx.mono hb
      replace hr1 := hr1.mono hb
      replace hr2 := hr2.mono hb
      replace Opa := Opa.mono (C3.kept PC.kept) hb
      replace Opb := Opb.mono (C3.kept RC.kept) hb
      replace cx_0 := cellK cx_0 hb
      replace cx_1 := cellK cx_1 hb
      replace cx_2 := cellK cx_2 hb
      replace cx_3 := cellK cx_3 hb
      replace cx_4 := cellK cx_4 hb
      replace cx_5 := cellK cx_5 hb
      clear hb
      try go_wp2_with fail
      refine hK.out _ _ ⟨cx_0, cx_1, cx_2, cx_3, cx_4, cx_5⟩ (fun hH => ?_)
      clear hK K
      try simp only [Act.put, List.setIfInBounds_toArray, List.set_cons_zero, List.set_cons_succ]
      refine U_take (i := 10) (v := ?_) rfl (by kernel_rfl) (by kernel_rfl) (by kernel_rfl) (by kernel_rfl) (fun _ _ _ h => h) (Or.inl ⟨by rfl, ?_⟩) hH ?_
      rotate_left
      · intro w hSw
        try dsimp only at hSw
        go_simp
        try with_reducible rfl
      try simp only [Act.put, List.setIfInBounds_toArray, List.set_cons_zero, List.set_cons_succ]
      clear hH
      refine U_one (i := 11) (by kernel_rfl) rfl (fun K hK => ?_)
      go_simp
      generalize hWn : (w31.alloc (.cells #[.bool shr1, .slice ahr1 nhr1 chr1, .slice Ahr1 Nhr1 Chr1, .bool shr2, .slice ahr2 nhr2 chr2, .slice Ahr2 Nhr2 Chr2, .bool shr3, .slice ahr3 nhr3 chr3, .slice Ahr3 Nhr3 Chr3] 98)) = w32
      have hb : Below w31.heap.size w31 w32 := by rw [← hWn]; exact (Below.refl _ _).alloc (Nat.le_refl _) _
      have Blf : Bx w32 (w31.heap.size) 98 #[.bool shr1, .slice ahr1 nhr1 chr1, .slice Ahr1 Nhr1 Chr1, .bool shr2, .slice ahr2 nhr2 chr2, .slice Ahr2 Nhr2 Chr2, .bool shr3, .slice ahr3 nhr3 chr3, .slice Ahr3 Nhr3 Chr3] := by rw [← hWn]; exact Bx.new _ _ _
      have nx_f : wr.heap.size ≠ w31.heap.size := by have := Blx.lt; omega
      have sz_f : w.heap.size ≤ w31.heap.size := hs.size
      replace hs := bStep hs hb
      replace Blx := Blx.mono hb
      replace hr1 := hr1.mono hb
      replace hr2 := hr2.mono hb
      replace hr3 := hr3.mono hb
      replace Opa := Opa.mono (C3.kept PC.kept) hb
      replace Opb := Opb.mono (C3.kept RC.kept) hb
      replace cx_0 := cellK cx_0 hb
      replace cx_1 := cellK cx_1 hb
      replace cx_2 := cellK cx_2 hb
      replace cx_3 := cellK cx_3 hb
      replace cx_4 := cellK cx_4 hb
      replace cx_5 := cellK cx_5 hb
      clear hb hWn
      refine hK.out _ _ ⟨cx_0, cx_1, cx_2, cx_3, cx_4, cx_5⟩ (fun hH => ?_)
      clear hK K
      try simp only [Act.put, List.setIfInBounds_toArray, List.set_cons_zero, List.set_cons_succ]
      clear hH
      refine U_one (i := 12) (by kernel_rfl) rfl (fun K hK => ?_)
      obtain ⟨css, ho1, ho2, ho3, hown0⟩ := Opb
      simp only [List.getElem_toArray, List.getElem_cons_succ, List.getElem_cons_zero]
      rw [if_pos (by rfl)]
      refine wp_append_lies _ _ _ _ (by rfl) w.heap.size 98 j0 _ 9 168 Try.underlying26 hj hy0 hy1 hy2 (by rfl) (by omega) _ _ css.flatten (by rfl) hown0 ⟨w31.heap.size, 0, none⟩ 1 1 [.bool shr1, .slice ahr1 nhr1 chr1, .slice Ahr1 Nhr1 Chr1, .bool shr2, .slice ahr2 nhr2 chr2, .slice Ahr2 Nhr2 Chr2, .bool shr3, .slice ahr3 nhr3 chr3, .slice Ahr3 Nhr3 Chr3] (by rfl) (by rfl) Blf.news ?_ (by omega) ?_ ?_ ?_ _ rfl ?_
      · intro u hu; simp only [List.mem_cons, List.mem_nil_iff, or_false] at hu; rcases hu with rfl | rfl | rfl | rfl | rfl | rfl | rfl | rfl | rfl <;> rfl
      · unfold maxLen; omega
      · omega
      · exact hs.size
      intro gpb cappb w33 hown1 hgrow hat hlt
      have hk := KeepD.owns hown0 hgrow (by decide)
      have ho := owns_onlyT hown0 hgrow
      replace hs := hs.grown hgrow hs.size (fun k hk => (hown0.lt k hk).1)
      replace Opb := OwnR.push (C3.kept RC.kept) ho1 ho2 ho3 (x := (layF ((n1, d1), (n2, d2), (n3, d3)))) rfl ⟨[_, _, _], [_, _, _], [_, _, _], rfl, ⟨_, _, _, rfl, hr1⟩, ⟨_, _, _, rfl, hr2⟩, ⟨_, _, _, rfl, hr3⟩⟩ hown1 hk
      replace Blx := Blx.only ho (by decide)
      replace hr1 := hr1.keep hk
      replace hr2 := hr2.keep hk
      replace hr3 := hr3.keep hk
      replace Opa := Opa.onlyT (C3.kept PC.kept) ho (by decide) (by decide)
      replace cx_0 := Blx.at 0 rfl
      replace cx_1 := Blx.at 1 rfl
      replace cx_2 := Blx.at 2 rfl
      replace cx_3 := Blx.at 3 rfl
      replace cx_4 := Blx.at 4 rfl
      replace cx_5 := Blx.at 5 rfl
      clear hk ho ho1 ho2 ho3 hown0 hown1 hgrow Blf
      refine hK.out _ _ ⟨cx_0, cx_1, cx_2, cx_3, cx_4, cx_5⟩ (fun hH => ?_)
      clear hK K
      try simp only [Act.put, List.setIfInBounds_toArray, List.set_cons_zero, List.set_cons_succ]
      clear hH
      refine U_last (by kernel_rfl) rfl (by kernel_rfl) (fun K hK => ?_)
      go_simp
      refine hK.out _ _ ?_
      clear hK K
      intro wl hW
      rw [hW]
      clear hW wl
      try simp only [Act.put, List.setIfInBounds_toArray, List.set_cons_zero, List.set_cons_succ]
      clear cx_0 cx_1 cx_2 cx_3 cx_4 cx_5
      go_wp2
      go_roundw
      case rel => exact ⟨k + 1, by omega, by go_num, hs, by rw [HM.out]; rw [hlm] at Opa; exact Opa, by rw [HM.out]; rw [hlm] at Opb; exact Opb⟩
      all_goals first | (simp [intOf]; done) | (simp [intOf]; omega)
    · rw [List.take_of_length_le (by omega)] at Opa Opb
      have O1 := Lib.hid Opa.rows
      have O2 := Lib.hid Opb.rows
      clear Opa Opb
      go_wp2
      go_ret2
      exact ⟨_, _, rfl, O1.out, O2.out, hs⟩
end Go.Proofs.Ytlfnapfnpkhggaa
